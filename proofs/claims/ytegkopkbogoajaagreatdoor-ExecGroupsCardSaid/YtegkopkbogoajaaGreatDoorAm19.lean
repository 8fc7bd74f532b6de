/- Part of the proof. -/
import Derived.Test.YtegkopkbogoajaaGreatDoorAm18
set_option linter.unusedVariables false
set_option linter.unusedSimpArgs false
namespace Go.AM
abbrev filt(ym:List Int)(rs:av)(k:aJ):av:=rs.filter fun r=>decide (fJ ym r=k)
abbrev acb(ym:List Int)(rs:av):av:=(bC ym rs).map (·.1)
theorem B6(n:aO)(f:aT→av→aE×Int)(rows:av):uR n (fun _ a rows=>f a rows) rows=n.yo.map fun a=>f a rows:=by
 unfold uR;have:(n.yo.zipIdx.map fun p=>f p.1 rows)=(n.yo.zipIdx.map Prod.fst).map fun a=>f a rows:=by rw[aqS];rfl
 rw[this,List.zipIdx_map_fst]
theorem ace{ym:List Int}{rs:av}{k:aJ}:∀r∈filt ym rs k,r∈rs∧fJ ym r=k:=fun r hr=>by
 obtain⟨h1,h2⟩:=atX.1 hr;exact⟨h1,by simpa using h2⟩
theorem aeO{ym:List Int}{rs:av}{k:aJ}:k∈acb ym rs↔∃r∈rs,fJ ym r=k:=by
 have hg:=Pq ym rs;constructor
 ·intro h;obtain⟨g,hg',rfl⟩:=afJ.1 h;obtain⟨hp,hne⟩:=hg.rows g hg';obtain⟨r,hr⟩:=atc _ hne;have:=ace r (hp.mem_iff.1 hr);exact⟨r,this.1,this.2⟩
 rintro⟨r,hr,rfl⟩;obtain⟨g,hg',e⟩:=hg.all r hr;exact afJ.2 ⟨g,hg',e⟩
structure dY (n:aO) (R:av) (Q:List (aJ×av)):Prop where
 ne:∀q∈Q,q.2≠[]
 key:∀q∈Q,∀r∈q.2,fJ n.keys r=q.1
 all:(Q.flatMap (·.2)).Perm R
theorem dY.mem{n:aO}{R:av}{Q:List (aJ×av)}(h:dY n R Q){q:aJ×av}(hq:q∈Q):∀r∈q.2,r∈R:=fun r hr=>h.all.mem_iff.1 (auS.2 ⟨q,hq,hr⟩)
theorem dY.len{n:aO}{R:av}{Q:List (aJ×av)}(h:dY n R Q){q:aJ×av}(hq:q∈Q):q.2.length≤R.length∧q.1.length=n.keys.length:=by
 constructor
 ·rw[←h.all.length_eq];obtain⟨a,b,e⟩:=List.append_of_mem hq;rw[e];simp;omega
 obtain⟨r,hr⟩:=atc _ (h.ne q hq);rw[←h.key q hq r hr,gL]
theorem dY.filt{n:aO}{R:av}{Q:List (aJ×av)}(h:dY n R Q)(k:aJ):((Q.filter fun q=>decide (q.1=k)).flatMap (·.2)).Perm (filt n.keys R k):=by
 have h1:=h.all.filter fun r=>decide (fJ n.keys r=k);refine List.Perm.trans (List.Perm.of_eq ?_) h1;have key:∀Q:List (aJ×av),(∀q∈Q,∀r∈q.2,fJ n.keys r=q.1)→(Q.filter fun q=>decide (q.1=k)).flatMap (·.2)=(Q.flatMap (·.2)).filter fun r=>decide (fJ n.keys r=k):=by
  intro Q;induction Q with
  |nil=>intro _;rfl
  |cons q Q ih=>
   intro hk;rw[atE,auC,←ih fun q' hq'=>hk q' (aer _ hq')];have hq:=hk q (by simp);by_cases e:q.1=k
   ·rw[aui,if_pos (by simp[e]),atE];congr 1;exact (avr.2 fun r hr=>by simp[hq r hr,e]).symm
   rw[aui,if_neg (by simp[e])];have:q.2.filter (fun r=>decide (fJ n.keys r=k))=[]:=aug.2 fun r hr=>by simp[hq r hr,e]
   rw[this];rfl
 exact key Q h.key
theorem dY.keys{n:aO}{R:av}{Q:List (aJ×av)}(h:dY n R Q)(k:aJ):(∃q∈Q,q.1=k)↔k∈acb n.keys R:=by
 rw[aeO];constructor
 ·rintro⟨q,hq,rfl⟩;obtain⟨r,hr⟩:=atc _ (h.ne q hq);exact⟨r,h.mem hq r hr,h.key q hq r hr⟩
 rintro⟨r,hr,rfl⟩;obtain⟨q,hq,hrq⟩:=auS.1 (h.all.mem_iff.2 hr);exact⟨q,hq,(h.key q hq r hrq).symm⟩
end Go.AM
namespace Go.AM
theorem JE(rows:av):∀(l:List aT) (s:aJ×Int),l.foldl (Ec rows) s=(s.1++l.map (fun a=>(nY a.tag a.arg rows).1),if l.any (fun a=>decide ((nY a.tag a.arg rows).2≠0)) then 140 else s.2)
 |[],s=>by simp
 |a::l,s=>by
  rw[ahw,JE rows l];unfold Ec;by_cases h:(nY a.tag a.arg rows).2=0<;>simp[h]
noncomputable def amN(n:aO)(g:aJ×av):aJ:=g.1++n.yo.map fun a=>(nY a.tag a.arg g.2).1
noncomputable def GT(n:aO)(g:aJ×av):Bool:=n.yo.any fun a=>decide ((nY a.tag a.arg g.2).2≠0)
theorem J2(n:aO):∀(G:List (aJ×av)) (s:av×Int),G.foldl (FQ n) s=(s.1++G.map (amN n),if G.any (GT n) then 140 else s.2)
 |[],s=>by simp
 |g::G,s=>by
  rw[ahw,J2 n G];unfold FQ;rw[JE];simp only[aub,af6,at6,an7,ah5];congr 1;show (if G.any (GT n)=true then (140:Int) else if GT n g=true then 140 else s.2)=if (GT n g ||G.any (GT n))=true then 140 else s.2
  cases GT n g<;>cases G.any (GT n)<;>simp
theorem OT(n:aO)(rs:av)(h:∀g∈bC n.keys rs,∀a∈n.yo,((nY a.tag a.arg g.2).2=0↔(jD a.tag a.arg g.2).2=0)∧((jD a.tag a.arg g.2).2=0→(nY a.tag a.arg g.2).1=(jD a.tag a.arg g.2).1)):ix n rs=gp n rs:=by
 unfold ix gp;rw[ve,J2];simp only[ah5];have hb:∀g∈bC n.keys rs,GT n g=!W0 n (fun _ a rows=>jD a.tag a.arg rows) g:=fun g hg=>by
  unfold GT W0;rw[B6 n (fun a rows=>jD a.tag a.arg rows)];rw[arh,as9,←Bool.not_eq_true];constructor
  ·intro h1 h2;obtain⟨a,ha,h3⟩:=arL.1 h1;rw[decide_eq_true_iff]at h3;have:=afz.1 h2 _ (afJ.2 ⟨a,ha,rfl⟩);simp only[afE]at this;exact h3 ((h g hg a ha).1.2 this)
  intro h1;apply att;intro h2;apply h1;rw[afz];intro q hq;obtain⟨a,ha,rfl⟩:=afJ.1 hq;simp only[afE];have:=arG.1 (atN.2 h2) a ha;simp only[ad7,Decidable.not_not]at this;exact (h g hg a ha).1.1 this
 by_cases hall:(bC n.keys rs).all (W0 n fun _ a rows=>jD a.tag a.arg rows)=true
 ·rw[if_pos hall];have hany:(bC n.keys rs).any (GT n)=false:=arG.2 fun g hg=>by
   rw[hb g hg,afz.1 hall g hg];simp
  rw[hany];simp only[ai1,ali,ne_eq,not_true_eq_false];congr 2;refine aj6 fun g hg=>?_;unfold amN UI;rw[B6 n (fun a rows=>jD a.tag a.arg rows),aqS];congr 1;refine aj6 fun a ha=>?_;have hg':=afz.1 hall g hg;unfold W0 at hg';rw[B6 n (fun a rows=>jD a.tag a.arg rows)]at hg';have:=afz.1 hg' _ (afJ.2 ⟨a,ha,rfl⟩);simp only[afE]at this;exact (h g hg a ha).2 this
 rw[if_neg hall];have hany:(bC n.keys rs).any (GT n)=true:=by
  apply att;intro h2;apply hall;rw[afz];intro g hg;have h3:=arG.1 (atN.2 h2) g hg;rw[hb g hg]at h3;simpa using h3
 rw[hany];simp
theorem Ku{K:List Int}{r:aJ}(h:qD K r=true):r.length=K.length∧(∀(i:Nat) (v:aE) (k:Int),r[i]?=some v→K[i]?=some k→dC v=true∧(v.k=0∨v.k=k)):=by
 unfold qD at h;simp only[acz,afE]at h;refine⟨h.1,fun i v k h1 h2=>?_⟩;have hm:(v,k)∈r.zip K:=by
  refine aeb (i:=i) ?_;rw[atV];exact⟨h1,h2⟩
 have:=afz.1 h.2 _ hm;unfold Eb at this;simp only[acz,arX,afE]at this;exact this
theorem wG.fits{n:aO}{op:Int}{rs:av}(h:wG n op rs):∀r∈rs,qD (cZ rs) r=true:=fun r hr=>by
 have hf:=h.fit;unfold Ji at hf;simp only[acz,ad7]at hf;exact afz.1 hf.2 r hr
theorem P9{n:aO}{rs:av}(h:wG n 10 rs)(ha:iW n)(hg:FT rs):ix n rs=gp n rs:=by
 refine OT n rs fun g hg' a haa=>?_;have hp:=LO h.op h.xX;obtain⟨h1,_⟩:=eh hg';refine X8 (bI hp a haa) (fun r hr=>(h.row r (h1 r hr)).1) fun t3 r hr hz=>?_;have hag:=hp.ag a haa;unfold jM at hag;rw[if_neg (by omega)]at hag;simp only[acz,arX,afE,ad7,atU,ne_eq]at hag;obtain⟨hl,hk⟩:=Ku (h.fits r (h1 r hr));have hs:=Rr hl (fun i v k e1 e2=>(hk i v k e1 e2).2) hag.1.1.1 hz;have hI:=wT (hg r (h1 r hr)) (ha a haa).2 hz;unfold kM;rw[HU hI];rw[if_neg (by simp),if_pos];rcases hs with hs|hs
 ·exact .inl hs
 rcases hag.2 with (hn|h2)|h2
 ·exact absurd t3 hn
 ·exact .inr (by rw[hs,h2])
 exact .inl (by rw[hs,h2])
end Go.AM
namespace Go.AM
theorem ajj{α:Type}(f:α→aE×Int):∀(l:List α) (s:aJ×Int),(∀p∈l,(f p).2=0∨(f p).2=140) →
  l.foldl (fun s p=>(s.1++[(f p).1],if (f p).2≠0 then (f p).2 else s.2)) s=(s.1++l.map (fun p=>(f p).1),if l.all (fun p=>(f p).2==0) then s.2 else 140)
 |[],s,_=>by simp
 |a::l,s,h=>by
  rw[ahw,ajj f l _ fun p hp=>h p (aer _ hp)];rcases h a (by simp) with h0|h0
  ·simp[h0]
  simp[h0]
abbrev Sm(n:aO)(rows:av)(p:aT×Nat):aE×Int:=vb p.1.tag (ug (n.keys.length+p.2) rows)
def ajX(n:aO)(g:aJ×av):aJ:=g.1++n.yo.zipIdx.map fun p=>(Sm n g.2 p).1
def gz(n:aO)(g:aJ×av):Bool:=n.yo.zipIdx.all fun p=>(Sm n g.2 p).2==0
theorem aaT{n:aO}{g:aJ×av}(h:∀p∈n.yo.zipIdx,(Sm n g.2 p).2=0∨(Sm n g.2 p).2=140)(e:Int):xP n g e=(ajX n g,if gz n g then e else 140):=
 ajj (Sm n g.2) n.yo.zipIdx (g.1,e) h
theorem KL(n:aO):∀(G:List (aJ×av)) (s:av×Int),(∀g∈G,∀p∈n.yo.zipIdx,(Sm n g.2 p).2=0∨(Sm n g.2 p).2=140)→G.foldl (GS n) s=(s.1++G.map (ajX n),if G.all (gz n) then s.2 else 140)
 |[],s,_=>by simp
 |g::G,s,h=>by
  rw[ahw,KL n G _ fun q hq=>h q (aer _ hq)];unfold GS;rw[aaT (h g (by simp))];simp only[af6,at6,an7,ah5,aty];by_cases h1:gz n g=true<;>by_cases h2:G.all (gz n)=true<;>simp[h1,h2]
theorem YG(n:aO)(rs:av)(h:∀g∈bC n.keys rs,∀(i:Nat) a,n.yo[i]?=some a →
   ((vb a.tag (ug (n.keys.length+i) g.2)).2=0∨(vb a.tag (ug (n.keys.length+i) g.2)).2=140)∧((vb a.tag (ug (n.keys.length+i) g.2)).2=0↔(sw a.tag (oY (n.keys.length+i) g.2)).2=0) ∧
   ((sw a.tag (oY (n.keys.length+i) g.2)).2=0→(vb a.tag (ug (n.keys.length+i) g.2)).1=(sw a.tag (oY (n.keys.length+i) g.2)).1)):tQ n rs=ly n rs:=by
 have hz:∀g∈bC n.keys rs,∀p∈n.yo.zipIdx,n.yo[p.2]?=some p.1:=fun g _ p hp=>by
  have:=auz.1 (show (p.1,p.2)∈n.yo.zipIdx from hp);simpa using this
 unfold tQ ly;rw[ve,KL n _ _ fun g hg p hp=>(h g hg p.2 p.1 (hz g hg p hp)).1];simp only[ah5];have hb:∀g∈bC n.keys rs,gz n g=W0 n (fun i a rows=>sw a.tag (oY (n.keys.length+i) rows)) g:=fun g hg=>by
  unfold gz W0 uR;rw[List.all_map,arh,afz,afz];constructor
  ·intro h1 p hp;have:=h1 p hp;simp only[afE,Function.comp_apply]at this ⊢;exact (h g hg p.2 p.1 (hz g hg p hp)).2.1.1 this
  intro h1 p hp;have:=h1 p hp;simp only[afE,Function.comp_apply]at this ⊢;exact (h g hg p.2 p.1 (hz g hg p hp)).2.1.2 this
 have hall:(bC n.keys rs).all (gz n)=(bC n.keys rs).all (W0 n fun i a rows=>sw a.tag (oY (n.keys.length+i) rows)):=by
  rw[arh,afz,afz];exact⟨fun h1 g hg=>by rw[←hb g hg];exact h1 g hg,fun h1 g hg=>by rw[hb g hg];exact h1 g hg⟩
 rw[hall];by_cases hA:(bC n.keys rs).all (W0 n fun i a rows=>sw a.tag (oY (n.keys.length+i) rows))=true
 ·rw[if_pos hA,if_pos hA,if_neg (by simp)];congr 2;refine aj6 fun g hg=>?_;unfold ajX UI uR;rw[aqS];congr 1;refine aj6 fun p hp=>?_;have hg':=afz.1 hA g hg;unfold W0 uR at hg';have:=afz.1 hg' _ (afJ.2 ⟨p,hp,rfl⟩);simp only[afE]at this;exact (h g hg p.2 p.1 (hz g hg p hp)).2.2 this
 rw[if_neg hA,if_neg hA,if_pos (by decide)]
theorem Hs:∀(l:aJ) (s:Option Int),l.foldl gf s=(l.filter fun v=>v.k != 0).foldl gf s
 |[],s=>rfl
 |v::l,s=>by
  rw[ahw];by_cases h:v.k=0
  ·rw[at5 (by simp[h]),←Hs l];unfold gf;rw[if_pos h]
  rw[at4 (by simp[h]),ahw,←Hs l]
theorem Im:∀(l:aJ) (k k':Nat) (s:aE),match aV ue l k s with
  |.inl t=>aV uI (l.filter fun v=>v.k != 0) k' s=.inl t
  |.inr _=>∃p,aV uI (l.filter fun v=>v.k != 0) k' s=.inr p∧p.2≠0
 |[],k,k',s=>rfl
 |v::l,k,k',s=>by
  simp only[aV];unfold ue;by_cases h:v.k=0
  ·rw[if_pos h,at5 (by simp[h])];exact Im l (k+1) k' s
  rw[if_neg h,at4 (by simp[h])];simp only[aV];unfold uI;by_cases h0:(lJ s v).2=0
  ·rw[if_pos h0,if_pos h0];exact Im l (k+1) (k'+1) _
  rw[if_neg h0,if_neg h0];exact⟨_,rfl,h0⟩
theorem Hi:∀(l:aJ) (m:aE),m.k≠0→l.foldl (ip 4) m=It dP m (l.filter fun v=>v.k != 0)
 |[],m,_=>rfl
 |v::l,m,hm=>by
  rw[ahw];by_cases h:v.k=0
  ·rw[at5 (by simp[h])];have:ip 4 m v=m:=by unfold ip;rw[if_pos h]
   rw[this,Hi l m hm]
  rw[at4 (by simp[h])];have:ip 4 m v=if dP v m<0 then v else m:=by unfold ip;rw[if_neg h];simp[hm]
  rw[this,Hi l _ (by split;exact h;exact hm)];rfl
theorem HY:∀(l:aJ) (m:aE),m.k≠0→l.foldl (ip 5) m=GJ dP m (l.filter fun v=>v.k != 0)
 |[],m,_=>rfl
 |v::l,m,hm=>by
  rw[ahw];by_cases h:v.k=0
  ·rw[at5 (by simp[h])];have:ip 5 m v=m:=by unfold ip;rw[if_pos h]
   rw[this,HY l m hm]
  rw[at4 (by simp[h])];have:ip 5 m v=if 0<dP v m then v else m:=by unfold ip;rw[if_neg h];simp[hm]
  rw[this,HY l _ (by split;exact h;exact hm)];rfl
theorem IN:∀l:aJ,l.foldl (ip 4) aq=tu (l.filter fun v=>v.k != 0)
 |[]=>rfl
 |v::l=>by
  rw[ahw];by_cases h:v.k=0
  ·rw[at5 (by simp[h])];have:ip 4 aq v=aq:=by unfold ip;rw[if_pos h]
   rw[this,IN l]
  rw[at4 (by simp[h])];have:ip 4 aq v=v:=by unfold ip;rw[if_neg h,if_pos (.inl rfl)]
  rw[this,Hi l v h];rfl
theorem yc:∀l:aJ,l.foldl (ip 5) aq=jl (l.filter fun v=>v.k != 0)
 |[]=>rfl
 |v::l=>by
  rw[ahw];by_cases h:v.k=0
  ·rw[at5 (by simp[h])];have:ip 5 aq v=aq:=by unfold ip;rw[if_pos h]
   rw[this,yc l]
  rw[at4 (by simp[h])];have:ip 5 aq v=v:=by unfold ip;rw[if_neg h,if_pos (.inl rfl)]
  rw[this,HY l v h];rfl
theorem aep(s:Option Int):(kL s).2=0∨(kL s).2=140:=by
 cases s with
 |none=>exact .inl rfl
 |some x=>unfold kL;simp only;split<;>simp
theorem aed{tag:Int}{l:aJ}(h:UW tag l) :
  ((vb tag l).2=0∨(vb tag l).2=140)∧((vb tag l).2=0↔(sw tag (l.filter fun v=>v.k != 0)).2=0)∧((sw tag (l.filter fun v=>v.k != 0)).2=0→(vb tag l).1=(sw tag (l.filter fun v=>v.k != 0)).1):=by
 have h1:=h.t1;have h5:=h.t5;unfold vb sw;by_cases t3:tag=3
 ·rw[if_pos t3,if_pos t3];have ho:∀v∈l.filter (fun v=>v.k != 0),jd v:=fun v hv=>by
   obtain⟨hv1,hv2⟩:=atX.1 hv;exact (h.sum t3 v hv1).resolve_left (by simpa using hv2)
  have hj:=Im l 0 0 aq;unfold Zp ID;cases hf:aV ue l 0 aq with
  |inl t=>
   rw[hf]at hj;simp only at hj ⊢;have hs:=Xu ho hj;rw[hj];exact⟨aki hs,Iff.rfl,fun _=>rfl⟩
  |inr u=>
   rw[hf]at hj;obtain⟨p,hp,hp2⟩:=hj;rw[hp];refine⟨.inr rfl,⟨fun h=>?_,fun h=>absurd h hp2⟩,fun h=>absurd h hp2⟩;exact absurd (show (140:Int)=0 from h) (by decide)
 rw[if_neg t3,if_neg t3];unfold aci;rw[if_neg t3];by_cases t12:tag=1∨tag=2
 ·rw[if_pos t12,if_pos t12];have e:agy l=kL (I8 ((l.filter fun v=>v.k != 0)++[bL 0])):=by
   unfold agy I8;rw[au9,←Hs];simp[gf,bL]
  rw[e];exact⟨aep _,Iff.rfl,fun _=>rfl⟩
 rw[if_neg t12,if_neg t12];by_cases t4:tag=4
 ·subst t4;rw[if_pos rfl,IN];exact⟨.inl rfl,Iff.rfl,fun _=>rfl⟩
 have:tag=5:=by omega
 subst this;rw[if_neg t4,yc];exact⟨.inl rfl,Iff.rfl,fun _=>rfl⟩
def SD(rs:av):Prop:=∀r∈rs,∀v∈r,nv v.u
theorem G5{K:List Int}:∀{l:List aT} {j i:Nat} {a:aT},dU K j l=true→l[i]?=some a→pJ (K.getD (j+i) 0) a=true
 |[],_,_,_,_,h=>by simp at h
 |g::l,j,0,a,hf,h=>by
  simp only[dU,acz]at hf;simp at h;subst h;exact hf.1
 |g::l,j,i+1,a,hf,h=>by
  simp only[dU,acz]at hf;have:=G5 (i:=i) hf.2 (by simpa using h);rw[show j+(i+1)=j+1+i by omega];exact this
theorem FE{n:aO}{rs:av}(h:wG n 11 rs)(hg:FT rs)(hu:SD rs){g:aJ×av}(hgm:g∈bC n.keys rs){i:Nat}{a:aT}(hi:n.yo[i]?=some a):UW a.tag (ug (n.keys.length+i) g.2):=by
 have hp:=GN h.op h.xX;obtain⟨h1,_⟩:=eh hgm;obtain⟨_,_,hw⟩:=wz h;obtain⟨yB,_⟩:=aaN.1 hi;have hag:=G5 hp.ags hi;have hcol:∀v∈ug (n.keys.length+i) g.2,dC v=true∧(v.k=0∨v.k=(cZ rs).getD (n.keys.length+i) 0)∧rg v.n∧nv v.u:=fun v hv=>by
  obtain⟨r,hr,rfl⟩:=afJ.1 hv;have hrm:=h1 r hr;have hlen:=hw r hrm;obtain⟨hl,hk⟩:=Ku (h.fits r hrm);have hj:n.keys.length+i<r.length:=by omega
  have e1:r[n.keys.length+i]?=some r[n.keys.length+i]:=ad3 hj;have e2:(cZ rs)[n.keys.length+i]?=some (cZ rs)[n.keys.length+i]:=ad3 (by omega);have:=hk _ _ _ e1 e2;have d1:r.getD (n.keys.length+i) aq=r[n.keys.length+i]:=by rw[ad4,e1];rfl
  have d2:(cZ rs).getD (n.keys.length+i) 0=(cZ rs)[n.keys.length+i]:=by rw[ad4,e2];rfl
  rw[d1,d2];exact⟨this.1,this.2,hg r hrm _ (agL _),hu r hrm _ (agL _)⟩
 generalize (cZ rs).getD (n.keys.length+i) 0=o at *;unfold pJ at hag;simp only[acz]at hag;have hag:=hag.2;refine⟨?_,?_,fun t3 v hv=>?_,fun t12 v hv=>?_⟩
 ·apply att;intro hc;rw[if_neg (by omega),if_neg (by omega),if_neg (by omega)]at hag;cases hag
 ·apply att;intro hc;rw[if_neg (by omega),if_neg (by omega),if_neg (by omega)]at hag;cases hag
 ·rw[if_neg (by omega),if_pos t3]at hag;simp only[afE]at hag;obtain⟨c1,c2,c3,c4⟩:=hcol v hv;rcases c2 with c2|c2
  ·exact .inl c2
  exact .inr ⟨c1,.inr (by omega),c3,c4⟩
 rw[if_pos t12]at hag;simp only[afE]at hag;obtain⟨c1,c2,c3,c4⟩:=hcol v hv;rcases c2 with c2|c2
 ·exact .inl c2
 refine .inr ⟨?_,c3⟩;unfold kM;rw[c1,if_neg (by simp),if_pos (.inr (by omega))]
theorem agk{n:aO}{rs:av}(h:wG n 11 rs)(hg:FT rs)(hu:SD rs){g:aJ×av}(hgm:g∈bC n.keys rs){i:Nat}{a:aT}(hi:n.yo[i]?=some a):Hy a.tag (oY (n.keys.length+i) g.2):=by
 have hp:=FE h hg hu hgm hi;obtain⟨h1,_⟩:=eh hgm;obtain⟨_,_,hw⟩:=wz h;obtain⟨yB,_⟩:=aaN.1 hi;rw[MD];refine⟨fun t3 v hv=>?_,fun t12 v hv=>?_,fun v hv=>?_⟩
 ·obtain⟨hv1,hv2⟩:=atX.1 hv;exact (hp.sum t3 v hv1).resolve_left (by simpa using hv2)
 ·obtain⟨hv1,hv2⟩:=atX.1 hv;exact (hp.num t12 v hv1).resolve_left (by simpa using hv2)
 obtain⟨hv1,_⟩:=atX.1 hv;obtain⟨r,hr,rfl⟩:=afJ.1 hv1;have hrm:=h1 r hr;have hlen:=hw r hrm;have hj:n.keys.length+i<r.length:=by omega
 have e1:r[n.keys.length+i]?=some r[n.keys.length+i]:=ad3 hj;have d1:r.getD (n.keys.length+i) aq=r[n.keys.length+i]:=by rw[ad4,e1];rfl
 rw[d1];exact (Xb (h.row r hrm).1).2 _ (agL _)
theorem Yo{n:aO}{rs:av}(h:wG n 11 rs)(hg:FT rs)(hu:SD rs):tQ n rs=ly n rs:=
 YG n rs fun g hgm i a hi=>by
  have:=aed (FE h hg hu hgm hi);rw[MD];exact this
end Go.AM
namespace Go.AM
open P
set_option maxHeartbeats 4000000
set_option maxRecDepth 8000
theorem ic{α:Type}{l:List α}{n:Nat}(h:n<l.length)(h0:n≠0):l.take n≠[]:=auP (by simp;omega)
theorem ab9{α:Type}{enc:α→aa}[Nc enc 12 true](b:Bool)(l:List α)(n:Nat)(h0:n≠0)(hn:n≤1000)(σ:ah) :
  ∃ep,bK code I.qx [.wh b (l.map enc),ac (n:Int)] σ=some (.sl σ.length ep 0 (l.take n).length,σ++[.arr 12 ep ((l.take n).map enc)]):=by
 rw[bR ase rfl];have hnc:∀(k:List α),∀a∈k.map enc,aw a=12:=fun k a ha=>by
  obtain⟨y,_,rfl⟩:=afJ.1 ha;exact Nc.nc y
 have hnx:∀x:α,aw (enc x)=12:=fun x=>Nc.nc x;have hng:¬((n:Int)<0):=by omega
 by_cases h:n<l.length
 ·have hi:((n:Int)<l.length):=by omega
  have h1:min n l.length=n:=by omega
  have h2:l.take n≠[]:=ic h h0;have h4:n≤l.length:=by omega
  have h7:=hnc l;have h8:=hnc (l.take n);have h9:n≤most:=by unfold most;omega
  have h10:l≠[]:=by intro e;simp[e]at h
  refine⟨1,?_⟩;simp only[auc]at h8;simp[ay0,aeu,hi,hnx,hng,append,h0,h1,h2,h4,h9,h10,if_pos h7,if_pos h8]
 have hi:¬((n:Int)<l.length):=by omega
 have e0:l.take n=l:=aea (by omega);have h7:=hnc l;rw[e0];by_cases he:l=[]
 ·subst he;refine⟨0,?_⟩;simp[ay0,aeu,append,hnx,hng]
 have h9:l.length≤most:=by unfold most;omega
 refine⟨1,?_⟩;simp[ay0,aeu,hi,hnx,hng,append,he,if_pos h7,h9]
theorem aj1{α:Type}{enc:α→aa}[Nc enc 2 true](b:Bool)(l:List α)(n:Nat)(h0:n≠0)(hn:n≤1000)(σ:ah) :
  ∃ep,bK code I.qu [.wh b (l.map enc),ac (n:Int)] σ=some (.sl σ.length ep 0 (l.take n).length,σ++[.arr 2 ep ((l.take n).map enc)]):=by
 rw[bR ar2 rfl];have hnc:∀(k:List α),∀a∈k.map enc,aw a=2:=fun k a ha=>by
  obtain⟨y,_,rfl⟩:=afJ.1 ha;exact Nc.nc y
 have hnx:∀x:α,aw (enc x)=2:=fun x=>Nc.nc x;have hng:¬((n:Int)<0):=by omega
 by_cases h:n<l.length
 ·have hi:((n:Int)<l.length):=by omega
  have h1:min n l.length=n:=by omega
  have h2:l.take n≠[]:=ic h h0;have h4:n≤l.length:=by omega
  have h7:=hnc l;have h8:=hnc (l.take n);have h9:n≤most:=by unfold most;omega
  have h10:l≠[]:=by intro e;simp[e]at h
  refine⟨1,?_⟩;simp only[auc]at h8;simp[azh,aeP,hi,hnx,hng,append,h0,h1,h2,h4,h9,h10,if_pos h7,if_pos h8]
 have hi:¬((n:Int)<l.length):=by omega
 have e0:l.take n=l:=aea (by omega);have h7:=hnc l;rw[e0];by_cases he:l=[]
 ·subst he;refine⟨0,?_⟩;simp[azh,aeP,append,hnx,hng]
 have h9:l.length≤most:=by unfold most;omega
 refine⟨1,?_⟩;simp[azh,aeP,hi,hnx,hng,append,he,if_pos h7,h9]
theorem agd{α:Type}{enc:α→aa}[Nc enc 1 true](b:Bool)(l:List α)(n:Nat)(h0:n≠0)(hn:n≤1000)(σ:ah) :
  ∃ep,bK code I.qw [.wh b (l.map enc),ac (n:Int)] σ=some (.sl σ.length ep 0 (l.take n).length,σ++[.arr 1 ep ((l.take n).map enc)]):=by
 rw[bR asI rfl];have hnc:∀(k:List α),∀a∈k.map enc,aw a=1:=fun k a ha=>by
  obtain⟨y,_,rfl⟩:=afJ.1 ha;exact Nc.nc y
 have hnx:∀x:α,aw (enc x)=1:=fun x=>Nc.nc x;have hng:¬((n:Int)<0):=by omega
 by_cases h:n<l.length
 ·have hi:((n:Int)<l.length):=by omega
  have h1:min n l.length=n:=by omega
  have h2:l.take n≠[]:=ic h h0;have h4:n≤l.length:=by omega
  have h7:=hnc l;have h8:=hnc (l.take n);have h9:n≤most:=by unfold most;omega
  have h10:l≠[]:=by intro e;simp[e]at h
  refine⟨1,?_⟩;simp only[auc]at h8;simp[azo,agb,hi,hnx,hng,append,h0,h1,h2,h4,h9,h10,if_pos h7,if_pos h8]
 have hi:¬((n:Int)<l.length):=by omega
 have e0:l.take n=l:=aea (by omega);have h7:=hnc l;rw[e0];by_cases he:l=[]
 ·subst he;refine⟨0,?_⟩;simp[azo,agb,append,hnx,hng]
 have h9:l.length≤most:=by unfold most;omega
 refine⟨1,?_⟩;simp[azo,agb,hi,hnx,hng,append,he,if_pos h7,h9]
theorem aej{α:Type}{enc:α→aa}[Nc enc 1 false](b:Bool)(l:List α)(n:Nat)(h0:n≠0)(hn:n≤1000)(σ:ah) :
  ∃ep,bK code I.qz [.wh b (l.map enc),ac (n:Int)] σ=some (.sl σ.length ep 0 (l.take n).length,σ++[.arr 1 ep ((l.take n).map enc)]):=by
 rw[bR arZ rfl];have hnc:∀(k:List α),∀a∈k.map enc,aw a=1:=fun k a ha=>by
  obtain⟨y,_,rfl⟩:=afJ.1 ha;exact Nc.nc y
 have hnx:∀x:α,aw (enc x)=1:=fun x=>Nc.nc x;have hng:¬((n:Int)<0):=by omega
 by_cases h:n<l.length
 ·have hi:((n:Int)<l.length):=by omega
  have h1:min n l.length=n:=by omega
  have h2:l.take n≠[]:=ic h h0;have h4:n≤l.length:=by omega
  have h7:=hnc l;have h8:=hnc (l.take n);have h9:n≤most:=by unfold most;omega
  have h10:l≠[]:=by intro e;simp[e]at h
  refine⟨1,?_⟩;simp only[auc]at h8;simp[ayR,aeh,hi,hnx,hng,append,h0,h1,h2,h4,h9,h10,if_pos h7,if_pos h8]
 have hi:¬((n:Int)<l.length):=by omega
 have e0:l.take n=l:=aea (by omega);have h7:=hnc l;rw[e0];by_cases he:l=[]
 ·subst he;refine⟨0,?_⟩;simp[ayR,aeh,append,hnx,hng]
 have h9:l.length≤most:=by unfold most;omega
 refine⟨1,?_⟩;simp[ayR,aeh,hi,hnx,hng,append,he,if_pos h7,h9]
theorem ZD{α:Type}{enc:α→aa}[Nc enc 1 false][Fx enc](b:Bool)(l:List α)(n:Nat)(h0:n≠0)(hn:n≤1000) :
  az I.qab [.wh b (l.map enc),ac (n:Int)]=some (.wh false ((l.take n).map enc)):=by
 rw[am anZ rfl];have hnc:∀(k:List α),∀a∈k.map enc,aw a=1:=fun k a ha=>by
  obtain⟨y,_,rfl⟩:=afJ.1 ha;exact Nc.nc y
 have hfx:∀(k:List α) fl top base σ m,∀a∈k.map enc,fz fl top base σ (m+3) a=a:=fun k fl top base σ m a ha=>by
  obtain⟨y,_,rfl⟩:=afJ.1 ha;exact Fx.fx fl top base σ m y
 have hfr:=fun (k:List α) (σ:ah) (ep:Nat) (h:σ[0]?=some (.arr 1 ep (k.map enc)))=>kG (f:=enc) (m:=1) k 0 ep σ h;have hnx:∀x:α,aw (enc x)=1:=fun x=>Nc.nc x;have hng:¬((n:Int)<0):=by omega
 by_cases h:n<l.length
 ·have hi:((n:Int)<l.length):=by omega
  have h1:min n l.length=n:=by omega
  have h2:l.take n≠[]:=ic h h0;have h4:n≤l.length:=by omega
  have h7:=hnc l;have h8:=hnc (l.take n);have h9:n≤most:=by unfold most;omega
  have h10:l≠[]:=by intro e;simp[e]at h
  have h11:=hfr (l.take n) [.arr 1 1 ((l.take n).map enc)] 1 rfl;have h12:=hfx (l.take n);have h13:((l.take n).map enc).take n=(l.take n).map enc:=aea (by simp;omega);rw[show (l.take n).length=n by simp;omega]at h11;simp only[auc]at h8 h11 h12 h13;have h14:∀top base σ m,List.map (fz false top base σ (m+3)) (List.take n (List.map enc l))=List.take n (List.map enc l):=fun top base σ m=>by
   conv=>rhs;rw[←List.map_id (List.take n (List.map enc l))]
   exact aj6 fun a ha=>h12 false top base σ m a ha
  simp[azf,Wy,hi,hnx,hng,append,h0,h1,h2,h4,h9,h10,if_pos h7,if_pos h8,h11,h13,h14];exact fun a ha=>by rw[h12 _ _ _ _ 16 a ha]
 have hi:¬((n:Int)<l.length):=by omega
 have e0:l.take n=l:=aea (by omega);have h7:=hnc l;rw[e0];by_cases he:l=[]
 ·subst he;have h11:=hfr [] [.arr 1 0 []] 0 rfl;simp at h11;simp[azf,Wy,append,hnx,hng,h11]
 have h9:l.length≤most:=by unfold most;omega
 have h11:=hfr l [.arr 1 1 (l.map enc)] 1 rfl;simp[azf,Wy,hi,hnx,hng,append,he,if_pos h7,h9,h11];exact fun a ha=>by rw[hfx l _ _ _ _ 16 (enc a) (avt ha),hnx]
theorem agJ{α:Type}{enc:α→aa}[Nc enc 2 true][Fx enc](b:Bool)(l:List α)(n:Nat)(h0:n≠0)(hn:n≤1000) :
  az I.qy [.wh b (l.map enc),ac (n:Int)]=some (.wh false ((l.take n).map enc)):=by
 rw[am ar3 rfl];have hnc:∀(k:List α),∀a∈k.map enc,aw a=2:=fun k a ha=>by
  obtain⟨y,_,rfl⟩:=afJ.1 ha;exact Nc.nc y
 have hfx:∀(k:List α) fl top base σ m,∀a∈k.map enc,fz fl top base σ (m+3) a=a:=fun k fl top base σ m a ha=>by
  obtain⟨y,_,rfl⟩:=afJ.1 ha;exact Fx.fx fl top base σ m y
 have hfr:=fun (k:List α) (σ:ah) (ep:Nat) (h:σ[0]?=some (.arr 2 ep (k.map enc)))=>kG (f:=enc) (m:=2) k 0 ep σ h;have hnx:∀x:α,aw (enc x)=2:=fun x=>Nc.nc x;have hng:¬((n:Int)<0):=by omega
 by_cases h:n<l.length
 ·have hi:((n:Int)<l.length):=by omega
  have h1:min n l.length=n:=by omega
  have h2:l.take n≠[]:=ic h h0;have h4:n≤l.length:=by omega
  have h7:=hnc l;have h8:=hnc (l.take n);have h9:n≤most:=by unfold most;omega
  have h10:l≠[]:=by intro e;simp[e]at h
  have h11:=hfr (l.take n) [.arr 2 1 ((l.take n).map enc)] 1 rfl;have h12:=hfx (l.take n);have h13:((l.take n).map enc).take n=(l.take n).map enc:=aea (by simp;omega);rw[show (l.take n).length=n by simp;omega]at h11;simp only[auc]at h8 h11 h12 h13;have h14:∀top base σ m,List.map (fz false top base σ (m+3)) (List.take n (List.map enc l))=List.take n (List.map enc l):=fun top base σ m=>by
   conv=>rhs;rw[←List.map_id (List.take n (List.map enc l))]
   exact aj6 fun a ha=>h12 false top base σ m a ha
  simp[azl,aeE,hi,hnx,hng,append,h0,h1,h2,h4,h9,h10,if_pos h7,if_pos h8,h11,h13,h14];exact fun a ha=>by rw[h12 _ _ _ _ 16 a ha]
 have hi:¬((n:Int)<l.length):=by omega
 have e0:l.take n=l:=aea (by omega);have h7:=hnc l;rw[e0];by_cases he:l=[]
 ·subst he;have h11:=hfr [] [.arr 2 0 []] 0 rfl;simp at h11;simp[azl,aeE,append,hnx,hng,h11]
 have h9:l.length≤most:=by unfold most;omega
 have h11:=hfr l [.arr 2 1 (l.map enc)] 1 rfl;simp[azl,aeE,hi,hnx,hng,append,he,if_pos h7,h9,h11];exact fun a ha=>by rw[hfx l _ _ _ _ 16 (enc a) (avt ha),hnx]
theorem adR{α:Type}{enc:α→aa}[Nc enc 8 true][Fx enc](b:Bool)(l:List α)(n:Nat)(h0:n≠0)(hn:n≤1000) :
  az I.qv [.wh b (l.map enc),ac (n:Int)]=some (.frs 8 ((l.take n).map enc)):=by
 rw[am asM rfl];have hnc:∀(k:List α),∀a∈k.map enc,aw a=8:=fun k a ha=>by
  obtain⟨y,_,rfl⟩:=afJ.1 ha;exact Nc.nc y
 have hfx:∀(k:List α) fl top base σ m,∀a∈k.map enc,fz fl top base σ (m+3) a=a:=fun k fl top base σ m a ha=>by
  obtain⟨y,_,rfl⟩:=afJ.1 ha;exact Fx.fx fl top base σ m y
 have hfr:=fun (k:List α) (σ:ah) (ep:Nat) (h:σ[0]?=some (.arr 8 ep (k.map enc)))=>kG (f:=enc) (m:=8) k 0 ep σ h;have hnx:∀x:α,aw (enc x)=8:=fun x=>Nc.nc x;have hng:¬((n:Int)<0):=by omega
 by_cases h:n<l.length
 ·have hi:((n:Int)<l.length):=by omega
  have h1:min n l.length=n:=by omega
  have h2:l.take n≠[]:=ic h h0;have h4:n≤l.length:=by omega
  have h7:=hnc l;have h8:=hnc (l.take n);have h9:n≤most:=by unfold most;omega
  have h10:l≠[]:=by intro e;simp[e]at h
  have h11:=hfr (l.take n) [.arr 8 1 ((l.take n).map enc)] 1 rfl;have h12:=hfx (l.take n);have h13:((l.take n).map enc).take n=(l.take n).map enc:=aea (by simp;omega);rw[show (l.take n).length=n by simp;omega]at h11;simp only[auc]at h8 h11 h12 h13;have h14:∀top base σ m,List.map (fz false top base σ (m+3)) (List.take n (List.map enc l))=List.take n (List.map enc l):=fun top base σ m=>by
   conv=>rhs;rw[←List.map_id (List.take n (List.map enc l))]
   exact aj6 fun a ha=>h12 false top base σ m a ha
  simp[azm,aft,hi,hnx,hng,append,h0,h1,h2,h4,h9,h10,if_pos h7,if_pos h8,h11,h13,h14]
 have hi:¬((n:Int)<l.length):=by omega
 have e0:l.take n=l:=aea (by omega);have h7:=hnc l;rw[e0];by_cases he:l=[]
 ·subst he;have h11:=hfr [] [.arr 8 0 []] 0 rfl;simp at h11;simp[azm,aft,append,hnx,hng,h11]
 have h9:l.length≤most:=by unfold most;omega
 have h11:=hfr l [.arr 8 1 (l.map enc)] 1 rfl;simp[azm,aft,hi,hnx,hng,append,he,if_pos h7,h9,h11]
end Go.AM
namespace Go.AM
open P
set_option maxHeartbeats 4000000
set_option maxRecDepth 4000
def El(v:aE):aE:={ v with s:=v.s.take 41 }
def kR(r:aJ):aJ:=(r.take 17).map El
def Ed(R:aJ)(i:Nat):aJ:=(R.take i).map El++R.drop i
theorem Y4(R:aJ):Ed R 0=R:=by simp[Ed]
theorem acr(R:aJ):Ed R R.length=R.map El:=by simp[Ed]
theorem Qo(R:aJ)(i:Nat):(Ed R i).length=R.length:=by simp[Ed];omega
theorem adi{R:aJ}{i:Nat}(h:i<R.length):(bZ (Ed R i))[i]?=some R[i].a:=by
 unfold Ed bZ;rw[arz,arD (by simp;omega)];simp[show i-min i R.length=0 by omega,h]
theorem acK{R:aJ}{i:Nat}(h:i<R.length):(bZ (Ed R i)).set i (El R[i]).a=bZ (Ed R (i+1)):=by
 have e1:R.drop i=R[i]::R.drop (i+1):=atG h;have e2:R.take (i+1)=R.take i++[R[i]]:=am3 h;unfold Ed bZ;rw[e1,e2];simp only[arz,af6,ajo];rw[auI _ _ (by simp;omega)];simp[show i-min i R.length=0 by omega]
theorem anT(e0 e1 e2 e3 e4 e7 e8 e9 e10:aa)(A B:Obj)(R:aJ)(hn:R.length≤most) :
  aM code 3 [6,13] wX ⟨[e0,e1,e2,e3,e4,.sl 2 0 0 R.length,.any,e7,e8,e9,e10,.int .i64 R.length,.int .i64 0,.any],[A,B,.arr 4 0 (bZ R)]⟩ =
   some (.ext 2,⟨[e0,e1,e2,e3,e4,.sl 2 0 0 R.length,.any,e7,e8,e9,e10,.int .i64 R.length,.int .i64 R.length,.bool false],[A,B,.arr 4 0 (bZ (R.map El))]⟩):=by
 have:=bU (base:=3) (clr:=[6,13]) (b:=wX) (fun i=>⟨[e0,e1,e2,e3,e4,.sl 2 0 0 R.length,.any,e7,e8,e9,e10,.int .i64 R.length,.int .i64 i,.any],[A,B,.arr 4 0 (bZ (Ed R i))]⟩) R.length
  (.ext 2,⟨[e0,e1,e2,e3,e4,.sl 2 0 0 R.length,.any,e7,e8,e9,e10,.int .i64 R.length,.int .i64 R.length,.bool false],[A,B,.arr 4 0 (bZ (R.map El))]⟩)
  (fun i hi=>by
   have hlt:((i:Int)<(R.length:Int)):=by omega
   have h1:=adi hi;have h2:=acK hi;unfold El aE.a at h2;unfold aE.a at h1;have h3:=Qo R i;simp only at h2;by_cases hs:41<R[i].s.length
   ·have is:((41:Int)<R[i].s.length):=by omega
    have is':(41:Nat)≤R[i].s.length:=by omega
    simp[wX,hlt,h1,h2,hi,is,is',aA hi hn,aH]
   have is:¬((41:Int)<R[i].s.length):=by omega
   rw[aea (by omega)]at h2;simp[wX,hlt,h1,h2,hi,is,aA hi hn,aH])
  (by simp[wX,acr])
 simpa [Y4] using this
theorem Sy{b:Bool}{rs:av}{k:Nat}(h:k<(ce b rs).length):(ce b rs)[k]=.wh b (bZ (rs[k]'(by simpa using h))):=by simp[ce]
end Go.AM
namespace Go.AM
open P
set_option maxHeartbeats 64000000
set_option maxRecDepth 40000
attribute [local simp] aB aP
section
def dE{α:Type}(f:α→α)(l:List α)(i:Nat):List α:=(l.take i).map f++l.drop i
section
variable {α:Type} (f:α→α)
theorem BC(l:List α):dE f l 0=l:=by simp[dE]
theorem Fp(l:List α):dE f l l.length=l.map f:=by simp[dE]
theorem EA{l:List α}{i:Nat}{y:α}(enc:α→aa)(h:l[i]?=some y):((dE f l i).map enc)[i]?=some (enc y):=by
 obtain⟨hl,hy⟩:=aaN.1 h;unfold dE;rw[arz,arD (by simp;omega)];simp[show i-min i l.length=0 by omega,hl,hy]
theorem Fo{l:List α}{i:Nat}{y:α}(enc:α→aa)(h:l[i]?=some y):((dE f l i).map enc).set i (enc (f y))=(dE f l (i+1)).map enc:=by
 obtain⟨hl,hy⟩:=aaN.1 h;have e1:l.drop i=y::l.drop (i+1):=by rw[←hy];exact atG hl
 have e2:l.take (i+1)=l.take i++[y]:=by rw[←hy];exact am3 hl
 unfold dE;rw[e1,e2];simp only[arz,af6,ajo];rw[auI _ _ (by simp;omega)];simp[show i-min i l.length=0 by omega]
end
def Iz(e:EN):EN:={ e with v:=El e.v }
def tG(l:List EN):List EN:=(l.take 60).map Iz
theorem S5(e0:aa)(A B:Obj)(R:List EN)(hn:R.length≤most) :
  aM code 4 [4,5,8] wM ⟨[e0,.ptr 0 0 0 0,.ptr 1 0 0 0,.ptr 3 0 0 0,.any,.any,ac R.length,ac 0,.any],[A,B,.arr 8 0 (R.map EN.a),.arr 1 0 [.agg [.sl 2 0 0 R.length]]]⟩ =
   some (.ext 0,⟨[e0,.ptr 0 0 0 0,.ptr 1 0 0 0,.ptr 3 0 0 0,.any,.any,ac R.length,ac R.length,.bool false],[A,B,.arr 8 0 ((R.map Iz).map EN.a),.arr 1 0 [.agg [.sl 2 0 0 R.length]]]⟩):=by
 have h:=bB (base:=4) (clr:=[4,5,8]) (b:=wM) R (fun i (_:Unit)=>⟨[e0,.ptr 0 0 0 0,.ptr 1 0 0 0,.ptr 3 0 0 0,.any,.any,ac R.length,ac i,.any],[A,B,.arr 8 0 ((dE Iz R i).map EN.a),.arr 1 0 [.agg [.sl 2 0 0 R.length]]]⟩)
  (fun _ _=>True) (fun _ _=>()) (fun _=>(.ext 0,⟨[e0,.ptr 0 0 0 0,.ptr 1 0 0 0,.ptr 3 0 0 0,.any,.any,ac R.length,ac R.length,.bool false],[A,B,.arr 8 0 ((R.map Iz).map EN.a),.arr 1 0 [.agg [.sl 2 0 0 R.length]]]⟩))
  (fun i y _ hi hy _=>by
   have yB:((i:Int)<(R.length:Int)):=by omega
   have h1:=EA Iz EN.a hy;have h2:=Fo Iz EN.a hy;rw[←h2];obtain⟨hlm,h1⟩:=aaN.1 h1;have hlm':i<R.length:=hi;obtain⟨t,l,r,c,⟨k,n,u,s⟩⟩:=y;generalize (dE Iz R i).map EN.a=M at *;simp only[EN.a,Iz,El]at h1 ⊢;refine⟨?_,trivial⟩;by_cases hs:41<s.length
   ·have is:((41:Int)<(s.length:Int)):=by omega
    have is':(41:Nat)≤s.length:=by omega
    simp[wM,yB,h1,hlm,hlm',is,is',aA hi hn,ar]
   have is:¬((41:Int)<(s.length:Int)):=by omega
   have e3:s.take 41=s:=aea (by omega);simp[wM,yB,h1,hlm,hlm',is,e3,aA hi hn,ar])
  (fun _ _=>by simp[wM,Fp]) () trivial
 have h:=h.1;rw[BC]at h;simpa using h
theorem zv(b:Bool)(l:List EN):az I.qaf [.agg [.wh b (l.map EN.a)]]=some (.agg [.wh false ((tG l).map EN.a)]):=by
 rw[am ap7 rfl];have hc:=adR (enc:=EN.a) b l 60 (by decide) (by decide);have hn:(l.take 60).length≤most:=by simp;unfold most;omega
 unfold tG;generalize l.take 60=R at hc hn ⊢;have hl:=fun A B e0=>S5 e0 A B R hn;have hlen:(R.map Iz).length=R.length:=by simp
 generalize R.map Iz=R' at hl hlen ⊢;have htk:List.take R.length (R'.map EN.a)=R'.map EN.a:=by rw[←hlen];exact lE R' EN.a
 simp at hc hl;simp[aBg,ahF,hc,hl,hlen,htk]
end
def J3(g:aT):aT:=⟨g.tag,false,tG g.arg⟩
def MX(e:kx):kx:=⟨false,tG e.l⟩
def jG(n:aO):aO:={ n with bk:=false,xX:=n.xX.take 17,bc:=false,cond:=tG n.cond,by':=false,keys:=n.keys.take 6,bg:=false,yo:=(n.yo.take 14).map J3,bi:=false,items:=(n.items.take 17).map MX,bo:=false,ords:=n.ords.take 5 }
abbrev Hm(n:aO)(ep2 m2 ep3 m3:Nat):Obj:=.arr 12 0 [.agg [ac n.op,ac n.l,ac n.r,ac n.tab,.wh false ((n.xX.take 17).map (.int .i64)),.bool n.left,.wh n.bc (n.cond.map EN.a),.wh false ((n.keys.take 6).map (.int .i64)),.sl 2 ep2 0 m2,.sl 3 ep3 0 m3,.wh false ((n.ords.take 5).map Ei),ac n.limit]]
theorem UC(e0 e1 e2 e3 e4 e10 e11 e12 e13 e18 e19 e20 e21:aa)(h:∀x∈[e0,e1,e2,e3,e4,e10,e11,e12,e13,e18,e19,e20,e21],∀σ,fz false true 4 σ 20 x=x)(L:List aO)(ep:Nat)(n:aO)(ep2 ep3:Nat)(G:List aT)(I:List kx)(hn:G.length≤most) :
  aM code 4 [6,7,17] BA ⟨[e0,e1,e2,e3,e4,.ptr 1 0 0 0,.any,.any,.any,.any,e10,e11,e12,e13,.sl 2 ep2 0 G.length,ac G.length,ac 0,.any,e18,e19,e20,e21],[.arr 12 ep (L.map aO.a),Hm n ep2 G.length ep3 I.length,.arr 2 ep2 (G.map aT.a),.arr 1 ep3 (I.map kx.a)]⟩ =
   some (.ext 2,⟨[e0,e1,e2,e3,e4,.ptr 1 0 0 0,.any,.any,.any,.any,e10,e11,e12,e13,.sl 2 ep2 0 G.length,ac G.length,ac G.length,.bool false,e18,e19,e20,e21],[.arr 12 ep (L.map aO.a),Hm n ep2 G.length ep3 I.length,.arr 2 ep2 ((G.map J3).map aT.a),.arr 1 ep3 (I.map kx.a)]⟩):=by
 have hk:=bB (base:=4) (clr:=[6,7,17]) (b:=BA) G (fun i (_:Unit)=>⟨[e0,e1,e2,e3,e4,.ptr 1 0 0 0,.any,.any,.any,.any,e10,e11,e12,e13,.sl 2 ep2 0 G.length,ac G.length,ac i,.any,e18,e19,e20,e21],[.arr 12 ep (L.map aO.a),Hm n ep2 G.length ep3 I.length,.arr 2 ep2 ((dE J3 G i).map aT.a),.arr 1 ep3 (I.map kx.a)]⟩)
  (fun _ _=>True) (fun _ _=>()) (fun _=>(.ext 2,⟨[e0,e1,e2,e3,e4,.ptr 1 0 0 0,.any,.any,.any,.any,e10,e11,e12,e13,.sl 2 ep2 0 G.length,ac G.length,ac G.length,.bool false,e18,e19,e20,e21],[.arr 12 ep (L.map aO.a),Hm n ep2 G.length ep3 I.length,.arr 2 ep2 ((G.map J3).map aT.a),.arr 1 ep3 (I.map kx.a)]⟩))
  (fun i y _ hi hy _=>by
   have yB:((i:Int)<(G.length:Int)):=by omega
   have h1:=EA J3 aT.a hy;have h2:=Fo J3 aT.a hy;obtain⟨hlm,h1⟩:=aaN.1 h1;obtain⟨t,bb,arg⟩:=y;have hs:=fun b=>zv b arg;simp at h;refine⟨?_,trivial⟩;have hlm':i<G.length:=hi;have hset:∀x,List.map (aZ 4 x) (List.map aT.a (dE J3 G (i+1)))=List.map aT.a (dE J3 G (i+1)):=fun x=>by simp
   rw[←h2]at hset;rw[←h2];generalize (dE J3 G i).map aT.a=M at *;simp only[aT.a,J3]at h1 hset ⊢;simp[BA,yB,h1,hlm,hlm',hs,aA hi hn,ar,ap,h,hset,Hm])
  (fun _ _=>by simp[BA,Fp]) () trivial
 have hk:=hk.1;rw[BC]at hk;simpa using hk
theorem Pp(e0 e1 e2 e3 e4 e10 e11 e12 e13 e14 e15 e16 e17:aa)(h:∀x∈[e0,e1,e2,e3,e4,e10,e11,e12,e13,e14,e15,e16,e17],∀σ,fz false true 4 σ 20 x=x)(L:List aO)(ep:Nat)(n:aO)(ep2 ep3:Nat)(G:List aT)(I:List kx)(hn:I.length≤most) :
  aM code 4 [8,9,21] zT ⟨[e0,e1,e2,e3,e4,.ptr 1 0 0 0,.any,.any,.any,.any,e10,e11,e12,e13,e14,e15,e16,e17,.sl 3 ep3 0 I.length,ac I.length,ac 0,.any],[.arr 12 ep (L.map aO.a),Hm n ep2 G.length ep3 I.length,.arr 2 ep2 (G.map aT.a),.arr 1 ep3 (I.map kx.a)]⟩ =
   some (.ext 4,⟨[e0,e1,e2,e3,e4,.ptr 1 0 0 0,.any,.any,.any,.any,e10,e11,e12,e13,e14,e15,e16,e17,.sl 3 ep3 0 I.length,ac I.length,ac I.length,.bool false],[.arr 12 ep (L.map aO.a),Hm n ep2 G.length ep3 I.length,.arr 2 ep2 (G.map aT.a),.arr 1 ep3 ((I.map MX).map kx.a)]⟩):=by
 have hk:=bB (base:=4) (clr:=[8,9,21]) (b:=zT) I (fun i (_:Unit)=>⟨[e0,e1,e2,e3,e4,.ptr 1 0 0 0,.any,.any,.any,.any,e10,e11,e12,e13,e14,e15,e16,e17,.sl 3 ep3 0 I.length,ac I.length,ac i,.any],[.arr 12 ep (L.map aO.a),Hm n ep2 G.length ep3 I.length,.arr 2 ep2 (G.map aT.a),.arr 1 ep3 ((dE MX I i).map kx.a)]⟩)
  (fun _ _=>True) (fun _ _=>()) (fun _=>(.ext 4,⟨[e0,e1,e2,e3,e4,.ptr 1 0 0 0,.any,.any,.any,.any,e10,e11,e12,e13,e14,e15,e16,e17,.sl 3 ep3 0 I.length,ac I.length,ac I.length,.bool false],[.arr 12 ep (L.map aO.a),Hm n ep2 G.length ep3 I.length,.arr 2 ep2 (G.map aT.a),.arr 1 ep3 ((I.map MX).map kx.a)]⟩))
  (fun i y _ hi hy _=>by
   have yB:((i:Int)<(I.length:Int)):=by omega
   have h1:=EA MX kx.a hy;have h2:=Fo MX kx.a hy;obtain⟨hlm,h1⟩:=aaN.1 h1;obtain⟨bb,arg⟩:=y;have hs:=fun b=>zv b arg;simp at h;refine⟨?_,trivial⟩;have hlm':i<I.length:=hi;have hset:∀x,List.map (aZ 4 x) (List.map kx.a (dE MX I (i+1)))=List.map kx.a (dE MX I (i+1)):=fun x=>by simp
   rw[←h2]at hset;rw[←h2];generalize (dE MX I i).map kx.a=M at *;simp only[kx.a,MX]at h1 hset ⊢;simp[zT,yB,h1,hlm,hlm',hs,aA hi hn,ar,ap,h,hset,Hm])
  (fun _ _=>by simp[zT,Fp]) () trivial
 have hk:=hk.1;rw[BC]at hk;simpa using hk
theorem aj5(l:List aT)(top:Bool)(base:Nat)(σ:ah)(m:Nat):List.map (fz false top base σ (m+3)) ((l.map J3).map aT.a)=(l.map J3).map aT.a:=by
 rw[aqS,aqS,aqS];exact aj6 fun y _=>by simp[aT.a,J3]
theorem ajR(l:List kx)(top:Bool)(base:Nat)(σ:ah)(m:Nat):List.map (fz false top base σ (m+3)) ((l.map MX).map kx.a)=(l.map MX).map kx.a:=by
 rw[aqS,aqS,aqS];exact aj6 fun y _=>by simp[kx.a,MX]
theorem aeN(g:aT)(fl top:Bool)(base:Nat)(σ:ah)(m:Nat):aw (fz fl top base σ (m+1) (aT.a g))=aw (aT.a g):=by simp[aT.a]
theorem alq(g:kx)(fl top:Bool)(base:Nat)(σ:ah)(m:Nat):aw (fz fl top base σ (m+1) (kx.a g))=aw (kx.a g):=by simp[kx.a]
theorem OC(b:Bool)(l:List aO)(mo:Nat)(L:List aO)(ep:Nat)(hL:L.length≤most)(i:Nat)(n:aO)(hi:i<L.length)(hy:L[i]?=some n) :
  bM 1 [4,5,6,7,8,9,13,14,15,16,17,18,19,20,21] tK (run code tK ⟨[.wh b (l.map aO.a),ac (mo:Int),.yz,.sl 0 ep 0 L.length,.any,.any,.any,.any,.any,.any,.sl 0 ep 0 L.length,ac L.length,ac i,.any,.any,.any,.any,.any,.any,.any,.any,.any],[.arr 12 ep ((dE jG L i).map aO.a)]⟩) =
  aM code 1 [4,5,6,7,8,9,13,14,15,16,17,18,19,20,21] tK ⟨[.wh b (l.map aO.a),ac (mo:Int),.yz,.sl 0 ep 0 L.length,.any,.any,.any,.any,.any,.any,.sl 0 ep 0 L.length,ac L.length,ac (i+1:Nat),.any,.any,.any,.any,.any,.any,.any,.any,.any],[.arr 12 ep ((dE jG L (i+1)).map aO.a)]⟩:=by
 have yB:((i:Int)<(L.length:Int)):=by omega
 have h1:=EA jG aO.a hy;have h2:=Fo jG aO.a hy;obtain⟨hlm,h1⟩:=aaN.1 h1;have hck:=ZD (enc:=.int .i64) n.bk n.xX 17 (by decide) (by decide);have hcy:=ZD (enc:=.int .i64) n.by' n.keys 6 (by decide) (by decide)
 have hco:=agJ (enc:=Ei) n.bo n.ords 5 (by decide) (by decide);obtain⟨ep2,hca⟩:=aj1 (enc:=aT.a) n.bg n.yo 14 (by decide) (by decide) [.arr 12 ep ((dE jG L i).map aO.a),.arr 12 0 [n.a]];obtain⟨ep3,hci⟩:=agd (enc:=kx.a) n.bi n.items 17 (by decide) (by decide) [.arr 12 ep ((dE jG L i).map aO.a),.arr 12 0 [n.a],.arr 2 ep2 ((n.yo.take 14).map aT.a)];have hl1:=UC (.wh b (l.map aO.a)) (ac (mo:Int)) .yz (.sl 0 ep 0 L.length) (ac i) (.sl 0 ep 0 L.length) (ac L.length) (ac i) (.bool true) .any .any .any .any (by simp) (dE jG L i) ep n ep2 ep3 (n.yo.take 14) (n.items.take 17) (by simp;unfold most;omega);have hl2:=Pp (.wh b (l.map aO.a)) (ac (mo:Int)) .yz (.sl 0 ep 0 L.length) (ac i) (.sl 0 ep 0 L.length) (ac L.length) (ac i) (.bool true) (.sl 2 ep2 0 (n.yo.take 14).length) (ac (n.yo.take 14).length) (ac (n.yo.take 14).length) (.bool false) (by simp) (dE jG L i) ep n ep2 ep3 ((n.yo.take 14).map J3) (n.items.take 17) (by simp;unfold most;omega);have hs:=zv n.bc n.cond;have hfa:=aj5 (n.yo.take 14);have hfi:=ajR (n.items.take 17);have hla:((n.yo.take 14).map J3).length=(n.yo.take 14).length:=by simp
 have hli:((n.items.take 17).map MX).length=(n.items.take 17).length:=by simp
 have hM:∀σ,List.map (aZ 1 σ) ((dE jG L i).map aO.a)=(dE jG L i).map aO.a:=fun σ=>by simp
 rw[←h2];have hown:(jG n).a=.agg [ac n.op,ac n.l,ac n.r,ac n.tab,.wh false ((n.xX.take 17).map (.int .i64)),.bool n.left,.wh false ((tG n.cond).map EN.a),.wh false ((n.keys.take 6).map (.int .i64)),.wh false (((n.yo.take 14).map J3).map aT.a),.wh false (((n.items.take 17).map MX).map kx.a),.wh false ((n.ords.take 5).map Ei),ac n.limit]:=rfl;rw[hown];generalize (n.yo.take 14).map J3=G' at *;generalize (n.items.take 17).map MX=I' at *;generalize (dE jG L i).map aO.a=M at *;have htG:List.take (n.yo.take 14).length (G'.map aT.a)=G'.map aT.a:=by rw[←hla];exact lE G' aT.a
 have htI:List.take (n.items.take 17).length (I'.map kx.a)=I'.map kx.a:=by rw[←hli];exact lE I' kx.a
 rw[hla]at hl2;simp only[aO.a]at h1 hca hci;simp[Hm,-List.length_take]at hck hcy hco hca hci hl1 hl2;simp[tK,yB,h1,hlm,hi,hck,hcy,hco,hca,hci,hl1,hl2,hs,aA hi hL,ar,ap,hM,hfa,hfi,hla,hli,htG,htI,aeN,alq,-List.length_take]
theorem ag1(l:List aO)(fl top:Bool)(base:Nat)(σ:ah)(m:Nat):List.map (fz fl top base σ (m+3)) ((l.map jG).map aO.a)=(l.map jG).map aO.a:=by
 rw[aqS,aqS,aqS];exact aj6 fun y _=>by simp[aO.a,jG]
theorem alT(g:aO)(fl top:Bool)(base:Nat)(σ:ah)(m:Nat):aw (fz fl top base σ (m+1) (aO.a g))=aw (aO.a g):=by simp[aO.a]
theorem Tn(b:Bool)(l:List aO)(mo:Nat)(h0:mo≠0)(hm:mo≤1000):az I.qac [.wh b (l.map aO.a),ac (mo:Int)]=some (.wh false (((l.take mo).map jG).map aO.a)):=by
 rw[am arc rfl];obtain⟨ep,hc⟩:=ab9 (enc:=aO.a) b l mo h0 hm [];have hL:(l.take mo).length≤most:=by simp;unfold most;omega
 generalize l.take mo=L at hc hL ⊢;have h:=bB (base:=1) (clr:=[4,5,6,7,8,9,13,14,15,16,17,18,19,20,21]) (b:=tK) L (fun i (_:Unit)=>⟨[.wh b (l.map aO.a),ac (mo:Int),.yz,.sl 0 ep 0 L.length,.any,.any,.any,.any,.any,.any,.sl 0 ep 0 L.length,ac L.length,ac i,.any,.any,.any,.any,.any,.any,.any,.any,.any],[.arr 12 ep ((dE jG L i).map aO.a)]⟩)
  (fun _ _=>True) (fun _ _=>()) (fun _=>(.ext 0,⟨[.wh b (l.map aO.a),ac (mo:Int),.yz,.sl 0 ep 0 L.length,.any,.any,.any,.any,.any,.any,.sl 0 ep 0 L.length,ac L.length,ac L.length,.bool false,.any,.any,.any,.any,.any,.any,.any,.any],[.arr 12 ep ((L.map jG).map aO.a)]⟩))
  (fun i n _ hi hy _=>⟨OC b l mo L ep hL i n hi hy,trivial⟩)
  (fun _ _=>by simp[tK,Fp]) () trivial
 have h:=h.1;rw[BC]at h;have hfz:=ag1 L;have hlen:(L.map jG).length=L.length:=by simp
 generalize L.map jG=L' at *;have htk:List.take L.length (L'.map aO.a)=L'.map aO.a:=by rw[←hlen];exact lE L' aO.a
 simp at hc h;simp[aAe,ahP,hc,h,hlen,htk,hfz,alT]
end Go.AM
