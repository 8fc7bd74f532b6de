/- Part of the proof. -/
import Derived.Test.YtegkopkbogoajaaGreatDoorAm00
import Derived.Laws.MakeOwn
import Derived.Laws.StructEq
import Derived.ChangeKeysEq
import Derived.OrdersIn
set_option linter.unusedVariables false
set_option linter.unusedSimpArgs false
namespace Go.AM
variable {M:bw} {w:World} {P:Program}
theorem wZ{c:bv}{σ:ah}(hs:cO M w c σ){id ep:Nat}(h:fresh σ id ep=true):∃k es,σ[id]?=some (.arr k ep es)∧c.H id=.arr k ep:=by
 unfold fresh at h;split at h
 ·rename_i k e es he;have:e=ep:=by simpa using h
  subst this;exact⟨k,es,he,by rw[hs.H,cU he]⟩
 cases h
theorem wJ{c:bv}{σ:ah}(hs:cO M w c σ){id ep i o:Nat}{p:Value}(hp:R M w c (.ptr id ep i o) p)(hf:fresh σ id ep=true) :
  ∃k b,id<c.N∧c.H id=.arr k ep∧c.place id=some b∧p=.pointer (some ⟨b,i*k+o,none⟩):=by
 obtain⟨k,es,he,hH⟩:=wZ hs hf;cases hp with
 |ptr h1 h2 h3=>rw[hH]at h2;cases h2;exact⟨_,_,h1,hH,h3,rfl⟩
 |ptrOld h0 h1 h2=>exact absurd (h2 _ _ hH) (ato _)
theorem Hl{f:Field}{n:Nat}(h:(P.info? f.type).map (·.size)=some n)(hn:n≠0)(a:Addr):(fieldPlace a f).run P w=.ok (a.add f.offset) w:=by
 unfold fieldPlace;simp[dJ h,hn]
theorem am2{c:bv}{σ:ah}(hs:cO M w c σ){p v:aa}{cp:Value}(hp:R M w c p cp){S:TypeId}{i off n:Nat}{fs:Array Field}{f:Field}(hS:P.underlying S=some (.struct fs))(hf:fs[i]?=some f)
  (ho:f.offset=off) (hn:(P.info? f.type).map (·.size)=some n) (hn0:n≠0)
  (h:Jc σ off p=some v):∃cv,(Instr.fieldAt S cp i).run P w=.ok cv w∧R M w c v cv:=by
 have key:∀b o,(Instr.fieldAt S (.pointer (some ⟨b,o,none⟩)) i).run P w=.ok (.pointer (some ⟨b,o+off,none⟩)) w:=fun b o=>by
  unfold Instr.fieldAt Instr.sureAddr;simp only[Sem.run_bind,aK hS,Result.andThen_ok,hf,Sem.run_pure,Hl hn hn0,gT,ho]
 cases p with
 |ptr id ep j o=>
  simp only[Jc,Ar]at h;split at h
  ·rename_i hfr;cases h;obtain⟨k,b,h1,h2,h3,rfl⟩:=wJ hs hp hfr;exact⟨_,key _ _,by rw[arJ];exact .ptr h1 h2 h3⟩
  cases h
 |cptr b y o=>
  cases h;cases hp with
  |cptr f h1 h2 h3 h4=>exact⟨_,key _ _,by rw[arJ];exact .cptr f h1 h2 h3 h4⟩
 |_=>cases h
theorem rj{c:bv}{i:aa}{ci:Value}{n:Nat}(hi:R M w c i ci)(h:lL i=some n):∃k,ci=.int k n:=by
 cases hi<;>simp only[lL]at h<;>first|(cases h;done)|skip
 split at h
 ·cases h;rename_i h0;exact⟨_,by rw[Int.toNat_of_nonneg h0]⟩
 cases h
theorem akl{c:bv}{σ:ah}(hs:cO M w c σ){x v:aa}{cx ci:Value}(hx:R M w c x cx){n:Nat}(hi:∃k,ci=.int k (n:Int)){T e:TypeId}{k:Nat}(hT:P.underlying T=some (.slice e))(hk:(P.info? e).map (·.size)=some k)(hk0:k≠0)
  (h:Ar σ k n x=some v):∃cv,(Instr.indexAt T cx ci).run P w=.ok cv w∧R M w c v cv:=by
 obtain⟨ik,rfl⟩:=hi;have key:∀(a:Addr) (len cap:Nat),n<len→(Instr.indexAt T (.slice (some a) len cap) (.int ik n)).run P w=.ok (.pointer (some (a.add (n*k)))) w:=fun a len cap hlt=>by
  unfold Instr.indexAt;have h0:(0:Int)≤(n:Int)∧(n:Int)<(len:Int):=⟨by omega,by omega⟩;simp only[asIntOf,Sem.run_bind,Sem.run_pure,Result.andThen_ok,aK hT,h0,and_self,aml,dJ hk];rfl
 cases x with
 |wh b xs=>
  simp only[Ar,agx]at h;obtain⟨y,hy,h⟩:=h;split at h
  ·rename_i hyk;cases h;obtain⟨hlt,rfl⟩:=aaN.1 hy;cases hx with
   |@wh _ _ _ cap a K f h1 h2 h3 h4 h5 h6 h7=>
    obtain⟨blk,o,sp⟩:=a;simp only at h1 h2 h6;subst h2;have hK:K=k:=by rw[←h5 _ (agL hlt)];exact hyk
    subst hK;refine⟨_,key _ _ _ hlt,?_⟩;rw[gT]
    have:=R.cptr (M:=M) (w:=w) (c:=c) (b:=b) (x:=xs[n]) (off:=0) (o:=o+n*K) (blk:=blk) (f n) h1 (by omega) (fun j hj=>h6 n j hlt (by omega)) (fun j hj=>by
     cases b with
     |true=>exact (h7 n hlt j hj).ext (Ext.ofStill hs.sb true)
     |false=>exact h7 n hlt j hj)
    simpa using this
   |imm0=>simp at hlt
  cases h
 |lst xs=>
  simp only[Ar,agx]at h;obtain⟨y,hy,h⟩:=h;split at h
  ·rename_i hyk;cases h;obtain⟨hlt,rfl⟩:=aaN.1 hy;cases hx with
   |@lst _ _ cap a K f h1 h2 h3 h4 h5 h6 h7=>
    obtain⟨blk,o,sp⟩:=a;simp only at h1 h2 h6;subst h2;have hK:K=k:=by rw[←h5 _ (agL hlt)];exact hyk
    subst hK;refine⟨_,key _ _ _ hlt,?_⟩;rw[gT];have:=R.cptr (M:=M) (w:=w) (c:=c) (b:=true) (x:=xs[n]) (off:=0) (o:=o+n*K) (blk:=blk) (f n) (hs.sb _ h1) (by omega) (fun j hj=>h6 n j hlt (by omega)) (fun j hj=>h7 n hlt j hj);simpa using this
   |lst0=>simp at hlt
  cases h
 |sl id ep off m=>
  simp only[Jc,Ar]at h;split at h
  ·rename_i hc;obtain⟨hlt,ha,hf⟩:=hc;cases h;obtain⟨k',es,he,hH⟩:=wZ hs hf;have hkk:k'=k:=by simp only[adN,he]at ha;exact as7 ha
   subst hkk;cases hx with
   |@sl _ _ _ _ _ cap k2 blk h1 h2 h3 h4 h5=>
    have hkk:k2=k':=by rw[hH]at h2;cases h2;rfl
    subst hkk;refine⟨_,key _ _ _ hlt,?_⟩;rw[gT,←Nat.add_mul];exact R.ptr (off:=0) h1 hH h3
   |sl0 h1 h2=>omega
   |slOld h0 h1 h2=>exact absurd (h2 _ _ hH) (ato _)
  cases h
 |_=>cases h
theorem akU{c:bv}{σ:ah}(hs:cO M w c σ){x v:aa}{cx ci:Value}(hx:R M w c x cx){n m s:Nat}(hi:∃k,ci=.int k (n:Int)){T e:TypeId}(hT:P.underlying T=some (.array m e))(hk:(P.info? e).map (·.size)=some s)
  (hn:n<m) (h:Jc σ (n*s) x=some v):∃cv,(Instr.indexAt T cx ci).run P w=.ok cv w∧R M w c v cv:=by
 obtain⟨ik,rfl⟩:=hi;have key:∀(b o:Nat),(Instr.indexAt T (.pointer (some ⟨b,o,none⟩)) (.int ik n)).run P w=.ok (.pointer (some ⟨b,o+n*s,none⟩)) w:=fun b o=>by
  unfold Instr.indexAt;have h0:(0:Int)≤(n:Int)∧(n:Int)<(m:Int):=⟨by omega,by omega⟩;simp only[asIntOf,Sem.run_bind,Sem.run_pure,Result.andThen_ok,aK hT,Instr.sureAddr,h0,and_self,aml,dJ hk];rw[←gT];rfl
 cases x with
 |ptr id ep j o=>
  simp only[Jc,Ar]at h;split at h
  ·rename_i hfr;cases h;obtain⟨k,b,h1,h2,h3,rfl⟩:=wJ hs hx hfr;exact⟨_,key _ _,by rw[arJ];exact .ptr h1 h2 h3⟩
  cases h
 |cptr b y o=>
  cases h;cases hx with
  |cptr f h1 h2 h3 h4=>exact⟨_,key _ _,by rw[arJ];exact .cptr f h1 h2 h3 h4⟩
 |_=>cases h
theorem alD{c:bv}{x v:aa}{cx:Value}(hx:R M w c x cx)(hxa:Go.AM.isAgg x=true)(hx0:aw x≠0){T:TypeId}{a:Bool}{s off:Nat}(ht:p9 P T a s=true)(h:ub a s x off=some v) :
  ∃A cv,cx=.agg A∧(part T A off).run P w=.ok cv w∧R M w c v cv:=by
 obtain⟨cs,rfl⟩:=mh hxa;cases hx with
 |@agg _ _ vs f h1 h2 h3 h4=>
  by_cases h0:cs=[]
  ·subst h0;exact absurd rfl (hx0:aw (.agg [])≠0)
  have hn0:aw (.agg cs)≠0:=by simp[aw,h0]
  obtain⟨hle,hr⟩:=CL (f:=f) (show pb M w c (.agg cs) f from ⟨fun j hj=>(h2 j hj).2,h4⟩) hn0 h (fun ha=>by subst ha;exact wC ht);have hle':off+s≤cs.length:=hle;refine⟨vs,_,rfl,?_,hr⟩;unfold part;cases a with
  |true=>
   simp only[Sem.run_bind,oO ht,Result.andThen_ok,aml,dJ (sd ht),Sem.run_pure];congr 2;apply Array.ext
   ·simp;omega
   intro j hj1 hj2;simp at hj2;have:=(h2 (off+j) (by omega)).1;rw[atl (by rw[h1];omega)]at this;simp;exact as7 this
  |false=>
   obtain rfl:=wC ht;simp only[Sem.run_bind,oO ht,Result.andThen_ok,ai1,ali,(h2 off (by omega)).1,Sem.run_pure]
theorem Zv{c:bv}{σ:ah}(hs:cO M w c σ){x:aa}{cx:Value}(hx:R M w c x cx){n:Nat}(h:jn σ x=some n):∃a cap,cx=.slice a n cap∧n≤cap:=by
 cases hx with
 |wh K f h1 h2 h3=>simp only[jn,afV]at h;subst h;exact⟨_,_,rfl,h3⟩
 |imm0=>simp only[jn,ak3,afV]at h;subst h;exact⟨_,_,rfl,amn _⟩
 |lst K f h1 h2 h3=>simp only[jn,afV]at h;subst h;exact⟨_,_,rfl,h3⟩
 |lst0=>simp only[jn,ak3,afV]at h;subst h;exact⟨_,_,rfl,amn _⟩
 |yz=>simp only[jn,afV]at h;subst h;exact⟨_,_,rfl,amn _⟩
 |emp _=>simp only[jn,afV]at h;subst h;exact⟨_,_,rfl,amn _⟩
 |sl h1 h2 h3 h4=>
  simp only[jn]at h;split at h
  ·cases h;exact⟨_,_,rfl,h4⟩
  cases h
 |sl0=>
  simp only[jn]at h;split at h
  ·cases h;exact⟨_,_,rfl,amn _⟩
  cases h
 |slOld h0 h1 h2=>
  simp only[jn]at h;split at h
  ·rename_i hf;obtain⟨k,es,he,hH⟩:=wZ hs hf;exact absurd (h2 _ _ hH) (ato _)
  cases h
 |_=>simp[jn]at h
theorem amW{c:bv}{σ:ah}(hs:cO M w c σ){x:aa}{cx:Value}(hx:R M w c x cx){n:Nat}(h:jn σ x=some n){T ty e:TypeId}(hT:P.underlying T=some (.slice e)) :
  (Builtin.len_ #[T] ty #[cx]).run P w=.ok (.int .i64 n) w:=by
 obtain⟨a,cap,rfl,_⟩:=Zv hs hx h;simp[Builtin.len_,aK hT,goInt]
theorem aac{c:bv}{x:aa}{cx:Value}(hx:R M w c x cx){n:Nat}(h:I6 x=some n):∃s t,x=.str s∧cx=.string t∧t.data.toList=s∧t.size=n:=by
 cases hx with
 |@str _ s t ht=>
  simp only[I6,afV]at h;subst ht h;exact⟨_,t,rfl,rfl,rfl,by simp⟩
 |_=>simp[I6]at h
theorem ak8{c:bv}{x:aa}{cx:Value}(hx:R M w c x cx){n:Nat}(h:I6 x=some n){T ty:TypeId}(hT:P.underlying T=some .string) :
  (Builtin.len_ #[T] ty #[cx]).run P w=.ok (.int .i64 n) w:=by
 obtain⟨s,t,rfl,rfl,_,hn⟩:=aac hx h;simp[Builtin.len_,aK hT,goInt,hn]
theorem J5{k:IntKind}{n y:Nat}{code:BoundsCode}(h:n≤y):(Instr.sliceBound (.int k n) y code).run P w=.ok n w:=by
 rw[run_sliceBound w k n y code (by omega) (by omega)];simp
theorem zq{len cap l h:Nat}{isS:Bool}{lo hi:Option Value}(hlo:(lo=none∧l=0)∨∃k,lo=some (.int k (l:Int)))(hhi:(hi=none∧h=len)∨∃k,hi=some (.int k (h:Int)))(h1:l≤h)(h2:h≤cap) :
  (Instr.sliceBounds isS len cap lo hi none).run P w=.ok (l,h,cap) w:=by
 unfold Instr.sliceBounds;rcases hlo with⟨rfl,rfl⟩|⟨k,rfl⟩<;>rcases hhi with⟨rfl,rfl⟩|⟨k',rfl⟩<;>simp[J5 h1,J5 h2]
theorem aeW{c:bv}{σ:ah}(hs:cO M w c σ){x v:aa}{cx:Value}(hx:R M w c x cx){n l h:Nat}(hn:jn σ x=some n){lo hi:Option Value}(hlo:(lo=none∧l=0)∨∃k,lo=some (.int k (l:Int)))
  (hhi:(hi=none∧h=n)∨∃k,hi=some (.int k (h:Int))) {s:Nat} (hv:aslice σ s x l h=some v) {T e:TypeId} (hT:P.underlying T=some (.slice e)) (hk:(P.info? e).map (·.size)=some s) :
  ∃cv,(Instr.sliceAt T cx lo hi none).run P w=.ok cv w∧R M w c v cv:=by
 obtain⟨a,cap,rfl,hcap⟩:=Zv hs hx hn;have hrun:l≤h→h≤n→(Instr.sliceAt T (.slice a n cap) lo hi none).run P w=.ok (.slice (if cap=l then a else a.map (·.add (l*s))) (h-l) (cap-l)) w:=fun h1 h2=>by
  unfold Instr.sliceAt Instr.slice;simp only[Sem.run_bind,aK hT,Result.andThen_ok,zq hlo hhi h1 (als h2 hcap),dJ hk,Sem.run_pure]
 cases x with
 |wh b xs=>
  simp only[aslice]at hv;split at hv
  ·rename_i hc;obtain⟨c1,c2,c3⟩:=hc;cases hv;simp only[jn,afV]at hn;subst hn;refine⟨_,hrun c1 c2,?_⟩;by_cases h0:h=l
   ·subst h0;simp;exact .imm0
   rw[if_neg (by omega)];cases hx with
   |@wh _ _ _ _ a' K f h1 h2 h3 h4 h5 h6 h7=>
    obtain⟨blk,o,sp⟩:=a';simp only at h1 h2 h6;subst h2;have hK:K=s:=by
     have hm:xs[l]'(by omega)∈xs:=agL _;have:=afz.1 c3 _ hm;rw[←h5 _ hm];simpa using this
    subst hK;have hl2:((xs.drop l).take (h-l)).length=h-l:=by simp;omega
    have:=R.wh (M:=M) (w:=w) (c:=c) (b:=b) (xs:=(xs.drop l).take (h-l)) (cap:=cap-l) (a:=⟨blk,o+l*K,none⟩) K (fun i j=>f (l+i) j) h1 rfl (by omega) h4 (fun y hy=>h5 y (asW (akt hy)))
     (fun i j hi hj=>by
      have:=h6 (l+i) j (by omega) hj;rw[show o+l*K+i*K+j=o+(l+i)*K+j by rw[atx];omega];exact this)
     (fun i hi j hj=>by
      have hi':l+i<xs.length:=by omega
      have e:((xs.drop l).take (h-l))[i]=xs[l+i]:=by simp
      have hj':j<(cellsOf xs[l+i]).length:=by rw[←e];exact hj
      have:=h7 (l+i) hi' j hj';simp only[atK,atM];exact this)
    rw[hl2]at this;simpa [gT] using this
   |imm0=>simp at c2;omega
  cases hv
 |lst xs=>
  simp only[aslice]at hv;split at hv
  ·rename_i hc;obtain⟨c1,c2,c3⟩:=hc;cases hv;simp only[jn,afV]at hn;subst hn;refine⟨_,hrun c1 c2,?_⟩;by_cases h0:h=l
   ·subst h0;simp;exact .lst0
   rw[if_neg (by omega)];cases hx with
   |@lst _ _ _ a' K f h1 h2 h3 h4 h5 h6 h7=>
    obtain⟨blk,o,sp⟩:=a';simp only at h1 h2 h6;subst h2;have hK:K=s:=by
     have hm:xs[l]'(by omega)∈xs:=agL _;have:=afz.1 c3 _ hm;rw[←h5 _ hm];simpa using this
    subst hK;have hl2:((xs.drop l).take (h-l)).length=h-l:=by simp;omega
    have:=R.lst (M:=M) (w:=w) (c:=c) (xs:=(xs.drop l).take (h-l)) (cap:=cap-l) (a:=⟨blk,o+l*K,none⟩) K (fun i j=>f (l+i) j) h1 rfl (by omega) h4 (fun y hy=>h5 y (asW (akt hy)))
     (fun i j hi hj=>by
      have:=h6 (l+i) j (by omega) hj;rw[show o+l*K+i*K+j=o+(l+i)*K+j by rw[atx];omega];exact this)
     (fun i hi j hj=>by
      have hi':l+i<xs.length:=by omega
      have e:((xs.drop l).take (h-l))[i]=xs[l+i]:=by simp
      have hj':j<(cellsOf xs[l+i]).length:=by rw[←e];exact hj
      have:=h7 (l+i) hi' j hj';simp only[atK,atM];exact this)
    rw[hl2]at this;simpa [gT] using this
   |lst0=>simp at c2;omega
  cases hv
 |yz=>
  simp only[aslice]at hv;split at hv
  ·rename_i hc;obtain⟨rfl,rfl⟩:=hc;cases hv;refine⟨_,hrun (aes _) (amn _),?_⟩;cases hx;simp;exact .yz
  cases hv
 |sl id ep off m=>
  simp only[aslice]at hv;split at hv
  ·rename_i hc;obtain⟨c1,c2,c3⟩:=hc;cases hv;simp only[jn]at hn;split at hn
   ·rename_i hf;obtain⟨k,es,he,hH⟩:=wZ hs hf;cases hn;have hsk:k=s:=by simp only[adN,he]at c3;exact as7 c3
    subst hsk;refine⟨_,hrun c1 c2,?_⟩;by_cases hcl:cap=l
    ·have h0:h=l:=by omega
     have hlt:id<c.N:=by cases hx<;>assumption
     subst hcl h0;simp;exact .sl0 hlt hH
    rw[if_neg hcl];cases hx with
    |@sl _ _ _ _ _ _ k2 blk h1 h2 h3 h4 h5=>
     have hkk:k2=k:=by rw[hH]at h2;cases h2;rfl
     subst hkk;simp only[atH,gT,←Nat.add_mul];exact .sl h1 hH h3 (by omega) (by rw[show off+l+(cap-l)=off+cap by omega];exact h5)
    |sl0=>omega
    |slOld h0 h1 h2=>exact absurd (h2 _ _ hH) (ato _)
   cases hn
  cases hv
 |_=>simp[aslice]at hv
end Go.AM
namespace Go.AM
variable {M:bw} {w:World} {P:Program}
def iL(M:bw)(w:World)(c:bv)(env ls:List aa)(rs:Tmp→Option bp)(tmps:Array Value):Prop:=
 ∀t o,rs t=some o→R M w c (o.eval env ls) (tmps.getD t undef)
theorem iL.ext{c c':bv}{w':World}{rs:Tmp→Option bp}{env ls:List aa}{tmps:Array Value}(h:iL M w c env ls rs tmps)(he:Ext c w c' w'):iL M w' c' env ls rs tmps:=
 fun t o ho=>(h t o ho).ext he
theorem o9{a:Act}{d t:Tmp}{v:Value}(hd:d<a.tmps.size):(a.put (some d) v).tmps.getD t undef=if t=d then v else a.tmps.getD t undef:=by
 simp only[Act.put,ala,atr];by_cases h:d=t
 ·subst h;simp[hd]
 have:¬t=d:=fun e=>h e.symm;simp[h,this]
def NG:aa→aa→Bool
 |.int k n,.int k' n'=>k==k'&&n==n'
 |.bool a,.bool b=>a==b
 |.str a,.str b=>a==b
 |.nilp,.nilp=>true
 |.nilf,.nilf=>true
 |.nilm,.nilm=>true
 |_,_=>false
theorem Ua{a b:aa}(h:NG a b=true):a=b:=by
 cases a<;>cases b<;>simp[NG]at h<;>first|rfl|(subst h;rfl)|(obtain⟨h1,h2⟩:=h;subst h1 h2;rfl)
def DL:bp→bp→Bool
 |.env i,.env j=>i==j
 |.loc i,.loc j=>i==j
 |.val a,.val b=>NG a b
 |_,_=>false
theorem sR{a b:bp}(h:DL a b=true):a=b:=by
 cases a<;>cases b<;>simp[DL]at h<;>first|rw[h]|rw[Ua h]
def G7(a b:aa):Bool:=isAgg a&&isAgg b&&(js (cellsOf a) (cellsOf b)==some true)
theorem QS{a b:aa}(h:pa a b=some true):a=b:=by
 cases a<;>cases b<;>simp[pa]at h
 ·obtain⟨rfl,rfl⟩:=h;rfl
 ·subst h;rfl
 subst h;rfl
theorem AP:∀{a b:List aa},js a b=some true→a=b
 |[],[],_=>rfl
 |[],_::_,h=>by simp[js]at h
 |_::_,[],h=>by simp[js]at h
 |a::x,b::y,h=>by
  simp only[js,agx]at h;obtain⟨t,h1,h2⟩:=h;cases t with
  |true=>rw[QS h1,AP h2]
  |false=>simp[aiu]at h2
theorem O3{a b:aa}(h:G7 a b=true):a=b:=by
 simp only[G7,acz,afE]at h;obtain⟨⟨h1,h2⟩,h3⟩:=h;obtain⟨x,rfl⟩:=mh h1;obtain⟨y,rfl⟩:=mh h2;have h3':js x y=some true:=h3;rw[AP h3']
def jo(M:bw)(rs:Tmp→Option bp):Operand→bp→Bool
 |.tmp t,x=>match rs t with
  |some o=>DL o x
  |none=>false
 |.const v,.val a=>kh M.fm 6 v a
 |.func f,.val (.fn n [] [])=>M.fm n==f
 |.global g,.val (.cptr false a 0)=>match M.glob g with
  |some a'=>G7 a' a
  |none=>false
 |_,_=>false
def fT(M:bw)(w:World)(c:bv):Prop:=∀g a,M.glob g=some a→R M w c (.cptr false a 0) (.pointer (some ⟨g,0,none⟩))
theorem fT.ext{c c':bv}{w':World}(h:fT M w c)(he:Ext c w c' w'):fT M w' c':=fun g a hg=>(h g a hg).ext he
theorem Jt{c:bv}{rs:Tmp→Option bp}{env ls:List aa}{a:Act}(h:iL M w c env ls rs a.tmps)(hg:fT M w c){x:Operand}{x':bp}(hx:jo M rs x x'=true) :
  R M w c (x'.eval env ls) (a.eval x):=by
 unfold jo at hx;split at hx
 ·split at hx
  ·rename_i o ho;have:=sR hx;subst this;exact h _ _ ho
  cases hx
 ·exact rt hx
 ·rename_i f n;have:M.fm n=f:=by simpa using hx
  subst this;exact .fn (fun _=>undef) (fun _=>undef) rfl rfl (by simp) (by simp) (by simp) (by simp)
 ·split at hx
  ·rename_i a' ha;have:=O3 hx;subst this;exact hg _ _ ha
  cases hx
 cases hx
structure pZ (F:Fence):Prop where
 fn:∀f,F.fn f
 depth:F.depth=none
 alive:F.alive=false
theorem pZ.inRound{F:Fence}(h:pZ F)(l:Nat):pZ (F.inRound l):=⟨h.fn,h.depth,h.alive⟩
theorem ns.wp{F:Fence}{n:Nat}(hF:pZ F){c:bv}{o:Oper}{a:Act}{v:aa}{σ':ah}(h:ns M P c w (execOp a.eval o) v σ')(hd:∀c,o.op≠.defer c){K:Act→World→Prop}{Q:Exit→Act→World→Prop}
  (hK:∀cv w' c',cO M w' c' σ'→fK c w c' w'→R M w' c' v cv→K (a.put o.dst cv) w'):o.wpIn F n P a w K Q:=by
 obtain⟨nx,w',c',cv,h1,h2,h3,h4,h5⟩:=h;refine⟨fun f _=>hF.fn f,?_⟩;rw[Oper.semAt_eq _ _ _ hd,h1];rcases h2 with rfl|⟨rfl,rfl⟩
 ·exact hK cv w' c' h3 h4 h5
 exact hK undef w' c' h3 h4 h5
end Go.AM
namespace Go.AM
variable {M:bw} {w:World} {P:Program}
def alA(M:bw)(n0:Nat)(w:World)(c:bv)(k:Nat)(xs:List aa)(cv:Value):Prop:=
 k≠0∧(∀x∈xs,aw x=k) ∧
 ((xs=[]∧∃a,cv=.slice a 0 0) ∨
  ∃(b cap:Nat) (cs:Array Value) (T:TypeId) (f:Nat→Nat→Value),cv=.slice (some ⟨b,0,none⟩) xs.length cap∧n0≤b∧w.heap[b]?=some (.cells cs T (0,0))∧¬c.bor b∧(∀id,c.H id≠.dead→c.place id≠some b) ∧
   xs.length≤cap∧cap*k≤cs.size∧(∀i j,i<xs.length→j<k→cs[i*k+j]?=some (f i j)∧(f i j).oneCell'=true) ∧
   ∀i (hi:i<xs.length) j (hj:j<(cellsOf xs[i]).length),R M w (c.still false) (cellsOf xs[i])[j] (f i j))
inductive RF (M:bw) (n0:Nat) (w:World) (c:bv):aa→Value→Prop
 |r {v cv}:R M w c v cv→RF M n0 w c v cv
 |frs {k xs cv}:alA M n0 w c k xs cv→RF M n0 w c (.frs k xs) cv
 |tup {k xs vs cv} {cvs:Array Value} (f:Nat→Value):alA M n0 w c k xs cv→cvs.size=vs.length+1→cvs[0]?=some cv→(∀i (h:i<vs.length),cvs[i+1]?=some (f i))→(∀i (h:i<vs.length),R M w c vs[i] (f i)) →
   RF M n0 w c (.tup (.frs k xs::vs)) (.tuple cvs)
theorem cO.stillOld{c:bv}{σ:ah}(hs:cO M w c σ){b:Nat}(hb:b<w.heap.size)(hl:∀id,c.H id≠.dead→c.place id≠some b) :
  cO M w (c.addStill b) σ∧Ext c w (c.addStill b) w:=by
 have hext:Ext c w (c.addStill b) w:=⟨fun _ h=>.inl h,fun _ h=>.inl h,fun _ _=>rfl,aes _,fun _ _=>.inl rfl,fun _ _ _ _=>⟨rfl,rfl,rfl⟩⟩;refine⟨⟨hs.H,hs.N,fun b hb=>hb.imp (hs.sb b) id,fun x hx=>?_,fun id x h1 h2=>?_,hs.inj,fun id o' ho=>(hs.obj id o' ho).ext hext (fun _=>⟨rfl,rfl,rfl⟩) fun _ _ _=>rfl⟩,hext⟩
 ·rcases hx with hx|hx
  ·exact hs.low x hx
  rw[hx];exact hb
 obtain⟨a1,a2⟩:=hs.plow id x h1 h2;exact⟨a1,fun hx=>hx.elim a2 (fun e=>hl id h1 (by rw[←e];exact h2))⟩
theorem fK.stillOld{c c':bv}{w':World}{b:Nat}(h:fK c w c' w')(hb:w.heap.size≤b)(he:Ext c' w' (c'.addStill b) w'):fK c w (c'.addStill b) w':=
 { Ext.trans h.toExt he with same:=h.same,size:=h.size,frame:=h.frame,liv:=h.liv,old:=fun x hx hlt=>hx.elim (fun hx=>h.old x hx hlt) fun e=>by omega,oldb:=fun x hx hlt=>hx.elim (fun hx=>h.oldb x hx hlt) fun e=>by omega }
theorem cO.adopt{c c0:bv}{w0:World}{σ:ah}(hs:cO M w c σ)(hst:fK c0 w0 c w){b k:Nat}{xs:List aa}{cs:Array Value}{T:TypeId}{f:Nat→Nat→Value}(hb0:w0.heap.size≤b)(hb:w.heap[b]?=some (.cells cs T (0,0)))(hnb:¬c.bor b)(hl:∀id,c.H id≠.dead→c.place id≠some b)
  (hk:k≠0) (hall:∀x∈xs,aw x=k) (hsz:xs.length*k≤cs.size) (hc:∀i j,i<xs.length→j<k→cs[i*k+j]?=some (f i j)∧(f i j).oneCell'=true)
  (hr:∀i (hi:i<xs.length) j (hj:j<(cellsOf xs[i]).length),R M w c (cellsOf xs[i])[j] (f i j)) :
  ∃c',c'.N=σ.length+1∧c'.H σ.length=.arr k 0∧c'.place σ.length=some b∧c'.room σ.length=cs.size∧cO M w c' (σ++[.arr k 0 xs])∧fK c0 w0 c' w∧Ext c w c' w:=by
 have hbs:b<w.heap.size:=(ak4.1 hb).1;have hext:=Ext.grow (w':=w) hs (.arr k 0 xs) (some b) cs.size (c.loops 0) (fun _ _=>rfl);have key:∀i,hd (σ++[.arr k 0 xs]) i≠.dead→i≠c.N→c.H i≠.dead:=fun i hi hne=>by
  have hlt:i<σ.length:=by
   have:=DH hi;rw[hs.N]at hne;simp at this;omega
  rwa [pe hlt,←hs.H]at hi
 refine⟨c.grow (σ++[.arr k 0 xs]) (some b) cs.size (c.loops 0),by simp[bv.grow],?_,by simp[bv.grow,hs.N],by simp[bv.grow,hs.N],?_,?_,hext⟩
 ·show hd (σ++[.arr k 0 xs]) σ.length=_;rw[cU kc]
 ·refine⟨rfl,rfl,hs.sb,hs.low,fun id x h1 h2=>?_,fun i j x hi hj hbi hbj=>?_,fun id o ho=>?_⟩
  ·simp only[bv.grow]at h1 h2 ⊢;split at h2
   ·cases h2;exact⟨hbs,hnb⟩
   rename_i hne;exact hs.plow id x (key id h1 hne) h2
  ·simp only[bv.grow]at hi hj hbi hbj;split at hbi
   ·split at hbj
    ·omega
    rename_i h1 h2;cases hbi;exact absurd hbj (hl j (key j hj h2))
   rename_i h1;split at hbj
   ·cases hbj;exact absurd hbi (hl i (key i hi h1))
   rename_i h2;exact hs.inj i j x (key i hi h1) (key j hj h2) hbi hbj
  by_cases hlt:id<σ.length
  ·rw[arw hlt]at ho;have hne:id≠c.N:=by rw[hs.N];omega
   exact (hs.obj id o ho).ext hext (fun _=>by simp[bv.grow,hne]) fun _ _ _=>rfl
  have:id=σ.length:=by
   have:=(aaN.1 ho).1;simp at this;omega
  subst this;rw[kc]at ho;cases ho;refine⟨hk,hall,fun hn=>by simp[bv.grow,hs.N]at hn,fun x hx=>?_⟩;have hx':x=b:=by simp[bv.grow,hs.N]at hx;exact hx.symm
  subst hx';exact⟨cs,T,f,hb,hsz,by simp[bv.grow,hs.N],hc,fun i hi j hj=>(hr i hi j hj).ext hext⟩
 exact { Ext.trans hst.toExt hext with
  same:=hst.same
  size:=hst.size
  frame:=hst.frame
  old:=hst.old
  oldb:=hst.oldb
  liv:=fun id x h1 h2 hx=>by
   simp only[bv.grow]at h1 h2;split at h2
   ·cases h2;omega
   rename_i hne;exact hst.liv id x (key id h1 hne) h2 hx }
theorem Ho{c0 c:bv}{w0:World}{σ:ah}(hs:cO M w c σ)(hst:fK c0 w0 c w){v:aa}{cv:Value}(hv:RF M w0.heap.size w c v cv)(hnt:∀vs,v≠.tup vs)(mat:Bool) :
  ∃c',cO M w c' (rI mat v σ).2∧fK c0 w0 c' w∧Ext c w c' w∧R M w c' (rI mat v σ).1 cv:=by
 cases hv with
 |r h=>
  have e:rI mat v σ=(v,σ):=by
   cases h<;>rfl
  rw[e];exact⟨c,hs,hst,.refl c w,h⟩
 |tup f h=>exact absurd rfl (hnt _)
 |@frs k xs _ h=>
  obtain⟨hk,hall,h⟩:=h;cases mat with
  |true=>
   show ∃c',cO M w c' (σ++[.arr k 0 xs])∧fK c0 w0 c' w∧Ext c w c' w∧R M w c' (.sl σ.length 0 0 xs.length) cv;rcases h with⟨rfl,a,rfl⟩|⟨b,cap,cs,T,f,rfl,h1,h2,h3,h4,h5,h6,h7,h8⟩
   ·
    have hext:=Ext.grow (w':=w) hs (.arr k 0 []) none 0 (c.loops 0) (fun _ _=>rfl);refine⟨c.grow (σ++[.arr k 0 []]) none 0 (c.loops 0),?_,?_,hext,?_⟩
    ·refine hs.grow _ _ _ _ (fun _ _=>rfl) (aes _) (fun b hb=>by cases hb) ⟨hk,by simp,fun _=>rfl,fun b hb=>by simp[bv.grow,hs.N]at hb⟩
    ·exact fK.trans hst (fK.grow hs _ _ _ _ (.refl w) (fun _ _=>rfl) (aes _) (fun b hb=>by cases hb))
    exact .sl0 (by simp[bv.grow]) (show hd (σ++[.arr k 0 []]) σ.length=_ by rw[cU kc])
   obtain⟨c',a1,a2,a3,a4,a5,a6,a7⟩:=hs.adopt hst h1 h2 h3 h4 hk hall (als (arf k h5) h6) h7 (fun i hi j hj=>(h8 i hi j hj).ext (Ext.ofStill hs.sb false));refine⟨c',a5,a6,a7,?_⟩;have:=R.sl (M:=M) (w:=w) (c:=c') (id:=σ.length) (ep:=0) (off:=0) (len:=xs.length) (cap:=cap) (k:=k) (blk:=b) (by omega) a2 a3 h5 (by rw[a4];simpa using h6);simpa using this
  |false=>
   show ∃c',cO M w c' σ∧fK c0 w0 c' w∧Ext c w c' w∧R M w c' (.wh false xs) cv;rcases h with⟨rfl,a,rfl⟩|⟨b,cap,cs,T,f,rfl,h1,h2,h3,h4,h5,h6,h7,h8⟩
   ·exact⟨c,hs,hst,.refl c w,.imm0⟩
   have hbs:b<w.heap.size:=(ak4.1 h2).1;obtain⟨a1,a2⟩:=hs.stillOld hbs h4;refine⟨c.addStill b,a1,hst.stillOld h1 a2,a2,?_⟩
   exact R.wh (a:=⟨b,0,none⟩) k f (by simp[bv.addStill]) rfl h5 hk hall (fun i j hi hj=>by
    have:=h7 i j hi hj;simp only[World.cell?,h2,apx];exact this) (fun i hi j hj=>(h8 i hi j hj).ext (a2.still false))
theorem agv{c0 c:bv}{w0:World}{σ:ah}(hs:cO M w c σ)(hst:fK c0 w0 c w){v:aa}{cv:Value}(hv:RF M w0.heap.size w c v cv)(mat:Bool) :
  ∃c',cO M w c' (mater mat (v,σ)).2∧fK c0 w0 c' w∧R M w c' (mater mat (v,σ)).1 cv:=by
 by_cases ht:∃vs,v=.tup vs
 ·obtain⟨vs,rfl⟩:=ht;cases vs with
  |nil=>
   cases hv with
   |r h=>exact⟨c,hs,hst,h⟩
  |cons v0 vs=>
   show ∃c',cO M w c' (rI mat v0 σ).2∧fK c0 w0 c' w∧R M w c' (.tup ((rI mat v0 σ).1::vs)) cv;cases hv with
   |r h=>
    cases h with
    |@tup _ _ cvs f h1 h2 h3=>
     have h0:=h3 0 (by simp);simp only[ata]at h0;have hnt:(∃us,v0=.tup us)∨∀us,v0≠.tup us:=by
      by_cases h:∃us,v0=.tup us
      ·exact .inl h
      exact .inr fun us e=>h ⟨us,e⟩
     rcases hnt with⟨us,rfl⟩|hnt
     ·exact⟨c,hs,hst,.tup f h1 h2 h3⟩
     obtain⟨c',a1,a2,a3,a4⟩:=Ho hs hst (.r h0) hnt mat;refine⟨c',a1,a2,.tup f (by simpa using h1) (fun i hi=>h2 i (by simpa using hi)) (fun i hi=>?_)⟩;cases i with
     |zero=>exact a4
     |succ i=>exact (h3 (i+1) (by simpa using hi)).ext a3
   |@tup k xs _ cv0 cvs f h h1 h2 h3 h4=>
    obtain⟨c',a1,a2,a3,a4⟩:=Ho hs hst (.frs h) (by intro us e;cases e) mat;refine⟨c',a1,a2,.tup (fun i=>if i=0 then cv0 else f (i-1)) (by simpa using h1) (fun i hi=>?_) (fun i hi=>?_)⟩
    ·cases i with
     |zero=>exact h2
     |succ i=>simpa using h3 i (by simpa using hi)
    cases i with
    |zero=>exact a4
    |succ i=>
     have:=(h4 i (by simpa using hi)).ext a3;simpa using this
 obtain⟨c',a1,a2,_,a4⟩:=Ho hs hst hv (fun vs e=>ht ⟨vs,e⟩) mat;have e:mater mat (v,σ)=rI mat v σ:=by
  unfold mater;cases v<;>first|rfl|exact absurd ⟨_,rfl⟩ ht
 rw[e];exact⟨c',a1,a2,a4⟩
def mH(F:Fence)(n:Nat)(P:Program)(f:FuncId)(cargs:Array Value)(w:World)(R:Value→World→Prop):Prop:=
 ((callFunc f cargs).run P w=.ok (.enter f cargs) w∧CallsIn F n P f cargs w fun e w'=>∃cv,e=.returned cv∧R cv w') ∨
 ∃cv w',(callFunc f cargs).run P w=.ok (.value cv) w'∧R cv w'
def fU(M:bw)(w:World)(c:bv)(args:List aa)(cargs:Array Value):Prop:=
 cargs.size=args.length∧∀i (h:i<args.length),∃x,cargs[i]?=some x∧R M w c args[i] x
def dR(M:bw)(c:bv)(w:World)(σ':ah)(v:aa)(cv:Value)(w':World):Prop:=
 ∃c',cO M w' c' σ'∧fK c w c' w'∧RF M w.heap.size w' c' v cv
def gK(M:bw)(P:Program)(C:ec):Prop:=
 ∀f args σ v σ',C f args σ=some (v,σ')→∀(F:Fence) (n:Nat) (w:World) (c:bv) (cargs:Array Value),pZ F→cO M w c σ→fT M w c→fU M w c args cargs →
  mH F n P (M.fm f) cargs w (dR M c w σ' v)∧((∃a∈args,iw a=false)→∀(cargs':Array Value) (w':World),(callFunc (M.fm f) cargs').run P w'=.ok (.enter (M.fm f) cargs') w')
def gw(M:bw)(P:Program)(C:ec):Prop:=
 ∀site l env args σ v σ',C site (.frs l []::env++args) σ=some (v,σ')→∀(F:Fence) (n:Nat) (w:World) (c:bv) (cargs:Array Value) (x:Value),pZ F→cO M w c σ→fT M w c→fU M w c args cargs→sT σ l=true →
  R M w c (.yld l site env) x→∃b tmps w1,x=.func (.yield b) #[] #[]∧(Instr.yield b cargs).run P w=.ok (.round b (c.loops l).fn tmps (c.loops l).assign (c.loops l).body) w1 ∧
   RoundIn F n P b (c.loops l).fn tmps (c.loops l).assign (c.loops l).body w1 fun e w'=>∃cv,e=.returned cv∧dR M c w σ' v cv w'
theorem mH.wp{F:Fence}{n:Nat}(hF:pZ F){f:FuncId}{cargs:Array Value}{o:Oper}{a:Act}{R':Value→World→Prop}(h:∀n,mH F n P f cargs w R')(he:execOp a.eval o=callFunc f cargs)(hd:∀c,o.op≠.defer c)
  {K:Act→World→Prop} {Q:Exit→Act→World→Prop} (hK:∀cv w',R' cv w'→K (a.put o.dst cv) w'):o.wpIn F n P a w K Q:=by
 refine⟨fun f _=>hF.fn f,?_⟩;rw[Oper.semAt_eq _ _ _ hd,he];rcases h (n-1) with⟨h1,h2⟩|⟨cv,w',h1,h2⟩
 ·rw[h1];refine⟨fun hx=>absurd hx (by rw[hF.depth];simp),h2.mono fun e w' ⟨cv,hcv,hr⟩=>?_⟩;subst hcv;exact hK cv w' hr
 rw[h1];exact hK cv w' h2
theorem dR.mater{c:bv}{σ':ah}{v:aa}{cv:Value}{w':World}(h:dR M c w σ' v cv w')(mat:Bool) :
  ∃c',cO M w' c' (mater mat (v,σ')).2∧fK c w c' w'∧R M w' c' (mater mat (v,σ')).1 cv:=
 let ⟨_,h1,h2,h3⟩:=h
 agv h1 h2 h3 mat
theorem ZM{c:bv}{rs:Tmp→Option bp}{env ls:List aa}{a:Act}(h:iL M w c env ls rs a.tmps)(hg:fT M w c):∀{xs:List Operand} {xs':List bp},xs.length=xs'.length→((xs.zip xs').all fun p=>jo M rs p.1 p.2)=true →
  ∀i (h:i<xs'.length),∃x,(xs.map a.eval)[i]?=some x∧R M w c (xs'[i].eval env ls) x
 |[],[],_,_,i,hi=>absurd hi (by simp)
 |[],_::_,hl,_,_,_=>by simp at hl
 |_::_,[],hl,_,_,_=>by simp at hl
 |x::xs,x'::xs',hl,hok,i,hi=>by
  simp only[auB,aty,acz]at hok;cases i with
  |zero=>exact⟨_,rfl,Jt h hg hok.1⟩
  |succ i=>simpa using ZM h hg (by simpa using hl) hok.2 i (by simpa using hi)
end Go.AM
namespace Go.AM
variable (M:bw) (P:Program) (rs:Tmp→Option bp)
def Ck(T:TypeId)(k:Nat):Bool:=(P.info? T).map (·.size)==some k&&k != 0
def pU(T:TypeId)(z:aa):Bool:=match (P.info? T).map (·.zero) with
 |some (some v)=>kh M.fm 8 v z
 |_=>false
def qH(T:TypeId)(k:Nat):Bool:=match (P.info? T).map fun i=>(i.zero,i.bytes) with
 |some (some v,b)=>v.cells.size==k&&decide (b≤1024)&&b != 0
 |_=>false
def kl(T:TypeId):Option TypeId:=match P.underlying T with
 |some (.slice e)=>some e
 |_=>none
def ac7(T:TypeId):Bool:=match P.underlying T with
 |some (.int _)=>false
 |some _=>true
 |none=>false
def ZW(T:TypeId)(k:IntKind):Bool:=match P.underlying T with
 |some (.int j)=>j==k
 |_=>false
def yL(T:TypeId):Bool:=match P.underlying T with
 |some (.int _)=>true
 |_=>false
def Qr(T:TypeId):Bool:=match P.underlying T with
 |some .string=>true
 |_=>false
def Dr:Option Operand→Option bp→Bool
 |none,none=>true
 |some x,some x'=>jo M rs x x'
 |_,_=>false
def vS(xs:List Operand)(xs':List bp):Bool:=xs.length==xs'.length&&(xs.zip xs').all fun p=>jo M rs p.1 p.2
def rr(place:Nat→Option (Nat×Nat)):List (Nat×Operand)→List (Nat×Nat×bp)→Bool
 |[],[]=>true
 |(i,x)::ps,(off,s,x')::qs=>place i==some (off,s)&&jo M rs x x'&&rr place ps qs
 |_,_=>false
def Fz(S:TypeId)(i:Nat):Option Field:=match P.underlying S with
 |some (.struct fs)=>fs[i]?
 |_=>none
end Go.AM
namespace Go.AM
variable {M:bw} {w:World} {P:Program}
theorem iy{T:TypeId}{k:Nat}(h:Ck P T k=true):(P.info? T).map (·.size)=some k∧k≠0:=by
 simpa [Ck] using h
theorem ey{T e:TypeId}(h:kl P T=some e):P.underlying T=some (.slice e):=by
 unfold kl at h;split at h
 ·cases h;assumption
 cases h
theorem pG{T:TypeId}{z:aa}(h:pU M P T z=true):∃i v,P.info? T=some i∧i.zero=some v∧(∀w,(zeroValue T).run P w=.ok v w)∧kh M.fm 8 v z=true:=by
 unfold pU at h;unfold zeroValue typeInfo;cases hq:P.info? T with
 |none=>simp[hq]at h
 |some i=>
  simp only[hq,atH]at h;cases hz:i.zero with
  |none=>simp[hz]at h
  |some v=>
   rw[hz]at h;exact⟨i,v,rfl,hz,fun w=>by simp[hq,hz],h⟩
theorem qP{T:TypeId}{k:Nat}(h:qH P T k=true):∃i z,P.info? T=some i∧i.zero=some z∧z.cells.size=k∧i.bytes≤1024∧i.bytes≠0∧∀w,(zeroValue T).run P w=.ok z w:=by
 unfold qH at h;cases hq:P.info? T with
 |none=>simp[hq]at h
 |some i=>
  simp only[hq,atH]at h;cases hz:i.zero with
  |none=>simp[hz]at h
  |some v=>
   rw[hz]at h;simp only[acz,afE,ad7,atU]at h;exact⟨i,v,rfl,hz,h.1.1,h.1.2,h.2,fun w=>by simp[zeroValue,typeInfo,hq,hz]⟩
theorem SE{c:bv}{v:aa}{cv:Value}(h:R M w c v cv){k:Nat}(hn:aw v=k)(hk:k≠0):cv.cells.size=k:=by
 obtain⟨_,_,h2,_⟩:=oo h (by omega);omega
theorem M8{c:bv}{σ:ah}(hs:cO M w c σ){T e:TypeId}{k len:Nat}(hT:P.underlying T=some (.slice e))(hk:(P.info? e).map (·.size)=some k)(hk0:k≠0)(hz:qH P e k=true)(hb:len*k≤2^24)
  {vs:List aa} {cvs:List Value} (hl:vs.length=len) (hlc:cvs.length=len) (hr:∀i (h:i<vs.length) (h':i<cvs.length),R M w c vs[i] cvs[i]) (hn:∀v∈vs,aw v=k) (hlen:len≠0) {parts:Array (Nat×Value)} (hp:parts.toList=(List.range len).zip cvs) :
  ns M P c w (do pure (.value (←Instr.buildSlice T len parts))) (.lst vs) σ:=by
 obtain⟨i,z,z1,z2,z3,_,_,z4⟩:=qP hz;obtain⟨f,f1,f2,f3⟩:=GC (c:=c) hk0 (by omega) hr hn;obtain⟨B,b1,b2,b3⟩:=Hv k cvs 0 ((Array.range (len*k)).map (z.cells[· % z.cells.size]!)) (fun v hv=>by
  obtain⟨j,hj,rfl⟩:=ati.1 hv;exact SE (hr j (by omega) hj) (hn _ (agL _)) hk0) (by simp;rw[hlc];exact aes _)
 rw[hlc,←List.range_eq_range']at b1;obtain⟨h1,h2⟩:=hs.addStill (.cells B e (0,0));have hlk:¬(len*k=0):=fun e=>(avX.1 e).elim hlen hk0;refine⟨.value (.slice (some ⟨w.heap.size,0,none⟩) len len),iH w (.cells B e (0,0)),c.addStill w.heap.size,_,?_,.inl rfl,h1,h2,?_⟩
 ·have hb':¬(16777216<len*k):=by omega
  simp[Instr.buildSlice,aK hT,dJ hk,z4,hp,hb',hlk,newRow,b1];rfl
 have:=R.lst (M:=M) (w:=iH w (.cells B e (0,0))) (c:=c.addStill w.heap.size) (xs:=vs) (a:=⟨w.heap.size,0,none⟩) (cap:=len) k f (by simp[bv.addStill]) rfl (by omega) hk0 hn (fun i j hi hj=>by
  have:=f2 i j hi hj;simp only[World.cell?,pL];have hlt:=nE hi hj;have hb3:=b3 (i*k+j);rw[if_pos (by rw[hlc,apx];rw[hl]at hlt;omega)]at hb3;rw[show 0+i*k+j=i*k+j by omega];refine⟨?_,this.2⟩;rw[show i*k+j-0*k=i*k+j by omega,this.1]at hb3;exact hb3) (fun i hi j hj=>(f3 i hi j hj).ext h2.toExt)
 rw[hl]at this;exact this
theorem Fh{c:bv}{σ:ah}(hs:cO M w c σ){k:Nat}(hk:k≠0)(a:Option Addr) :
  ∃c',cO M w c' (σ++[.arr k 0 []])∧fK c w c' w∧R M w c' (.sl σ.length 0 0 0) (.slice a 0 0):=by
 refine⟨c.grow (σ++[.arr k 0 []]) none 0 (c.loops 0),?_,?_,?_⟩
 ·refine hs.grow _ _ _ _ (fun _ _=>rfl) (aes _) (fun b hb=>by cases hb) ⟨hk,by simp,fun _=>rfl,fun b hb=>by simp[bv.grow,hs.N]at hb⟩
 ·exact fK.grow hs _ _ _ _ (.refl w) (fun _ _=>rfl) (aes _) (fun b hb=>by cases hb)
 exact .sl0 (by simp[bv.grow]) (show hd (σ++[.arr k 0 []]) σ.length=_ by rw[cU kc])
theorem alb{c:bv}{σ:ah}(hs:cO M w c σ){T e:TypeId}{k:Nat}(hT:P.underlying T=some (.slice e))(hk0:k≠0)(hz:qH P e k=true){zero:aa}(hz':pU M P e zero=true)(hn:aw zero=k){m:Nat}(hm:m≤most)(hk:(P.info? e).map (·.size)=some k){k1 k2:IntKind} :
  ns M P c w (do pure (.value (←Instr.makeSlice T (.int k1 m) (.int k2 m)))) (.sl σ.length 0 0 m) (σ++[.arr k 0 (List.replicate m zero)]):=by
 obtain⟨i,z,z1,z2,z3,zb,_,z4⟩:=qP hz;obtain⟨i',z',y1,y2,y3,y4⟩:=pG hz';rw[z1]at y1;cases y1;rw[z2]at y2;cases y2;have hsz:i.size=k:=by rw[z1]at hk;simpa using hk
 have hR:R M w c zero z:=rt y4;obtain⟨g,hg,hgs,hgc⟩:=oo hR (by omega);have hmost:most=68719476736:=rfl;have hby:(i.bytes:Int)*(m:Int)≤281474976710656:=by
  have:i.bytes*m≤1024*m:=arf m zb;have:i.bytes*m≤281474976710656:=by omega
  rw[←Int.natCast_mul];exact Int.ofNat_le.2 this
 have hrun:=run_make (P:=P) w T e i z hT z1 z2 k1 k2 m m (by omega) (Int.le_refl _) hby (by omega)
 obtain⟨c',h1,h2,h3,h4,hsim,hstp⟩:=hs.newArr (ep:=0) (T:=e) (es:=List.replicate m zero) (cs:=madeCells z.cells (m*k)) (fun _ j=>g j) hk0 (fun x hx=>by rw[(List.mem_replicate.1 hx).2];exact hn) (by simp[size_madeCells])
  (fun i' j hi hj=>by
   have hi':i' < m:=by simpa using hi
   have hlt:=nE hi' hj;have e1:(i' * k+j)%k=j:=by rw[aux,avq,avk hj]
   have e2:=hgc j (by omega);refine⟨?_,hg.one j (by omega)⟩;have e3:z.cells[j]! = g j:=by rw[getElem!_def,e2]
   simp[madeCells,hlt,z3,e1,e3])
  (fun i' hi j hj=>by
   have e1:(List.replicate m zero)[i']=zero:=au8 ..;simp only[e1]at hj ⊢;exact hg.rel j hj)
 refine⟨.value (.slice (some ⟨w.heap.size,0,none⟩) m m),_,c',_,?_,.inl rfl,hsim,hstp,?_⟩
 ·rw[Sem.run_bind,hrun];simp[hsz];rfl
 have:=R.sl (M:=M) (w:=iH w (.cells (madeCells z.cells (m*k)) e (0,0))) (c:=c') (id:=σ.length) (ep:=0) (off:=0) (len:=m) (cap:=m) (k:=k) (blk:=w.heap.size) (by omega) h2 h3 (aes _) (by rw[h4,size_madeCells];simp);simpa using this
theorem age{c:bv}{σ:ah}(hs:cO M w c σ)(T:TypeId):ns M P c w (do pure (.value (←Instr.makeMap T none))) (.mp σ.length) (σ++[.map []]):=by
 have hext:=Ext.grow (w':=iH w (.map #[] 0)) hs (.map []) (some w.heap.size) 0 (c.loops 0) (fun b hb=>eT hb);refine⟨.value (.map (some w.heap.size)),iH w (.map #[] 0),c.grow (σ++[.map []]) (some w.heap.size) 0 (c.loops 0),_,rfl,.inl rfl,?_,?_,?_⟩
 ·refine hs.grow _ _ _ _ (fun b hb=>eT hb) (by rw[dq];omega) (fun b hb=>by cases hb;rw[dq];omega) ?_;exact⟨w.heap.size,0,#[],fun _=>undef,fun _=>undef,by simp[bv.grow,hs.N],pL,rfl,fun i hi=>absurd hi (by simp),fun i hi=>absurd hi (by simp),fun i hi=>absurd hi (by simp)⟩
 ·exact fK.grow hs _ _ _ _ lV (fun b hb=>eT hb) (by rw[dq];omega) (fun b hb=>by cases hb;exact aes _)
 refine .mp (by simp[bv.grow]) ?_ (by simp[bv.grow,hs.N]);show hd (σ++[.map []]) σ.length=_;rw[cU kc]
def uL(M:bw)(w:World)(c:bv)(es:List (aa×aa))(en:List MapEntry):Prop:=
 en.length=es.length∧∀i (h:i<es.length),∃e,en[i]?=some e∧ng (es[i]).1=true∧R M w c (es[i]).1 e.key∧R M w c (es[i]).2 e.val
theorem uL.tail{c:bv}{x:aa×aa}{es:List (aa×aa)}{e:MapEntry}{en:List MapEntry}(h:uL M w c (x::es) (e::en)):uL M w c es en:=
 ⟨by simpa using h.1,fun i hi=>by have:=h.2 (i+1) (by simpa using hi);simpa only [auA,auZ] using this⟩
theorem uL.head{c:bv}{x:aa×aa}{es:List (aa×aa)}{e:MapEntry}{en:List MapEntry}(h:uL M w c (x::es) (e::en)):ng x.1=true∧R M w c x.1 e.key∧R M w c x.2 e.val:=by
 obtain⟨e',h1,h2,h3,h4⟩:=h.2 0 (by simp);simp at h1;subst h1;exact⟨h2,h3,h4⟩
theorem Eu{c:bv}{a b:aa}{ca cb:Value}(ha:R M w c a ca)(hb:R M w c b cb){t:Bool}(h:Kh a b=some t){d:TypeDesc}(hd:∃q,d=.int q):Instr.sameNow d cb ca=some t∧(t=true→a=b):=by
 obtain⟨q,rfl⟩:=hd;unfold Kh at h;split at h
 ·split at h
  ·rename_i hk;subst hk;cases h;cases ha;cases hb;simp only[Instr.sameNow,aml,afV];exact⟨by rw[arh,afE,afE,eq_comm],fun e=>by rw[afE]at e;rw[e]⟩
  cases h
 cases h
theorem Qq{c:bv}{k:aa}{ck:Value}(hk:R M w c k ck){d:TypeDesc}(hd:∃q,d=.int q):∀{es:List (aa×aa)} {en:List MapEntry} (n:Nat) {r:Option aa},uL M w c es en→lookup k es=some r →
  (r=none∧Instr.findNow d ck en n=some none)∨∃v i cv,r=some v∧Instr.findNow d ck en n=some (some (i,cv))∧R M w c v cv
 |[],[],n,r,_,h=>by simp only[lookup,afV]at h;exact .inl ⟨h.symm,rfl⟩
 |[],_::_,_,_,h,_=>by simp[uL]at h
 |_::_,[],_,_,h,_=>by simp[uL]at h
 |x::es,e::en,n,r,he,h=>by
  obtain⟨_,h2,h3⟩:=he.head;simp only[lookup]at h;split at h
  ·rename_i hq;obtain⟨a1,_⟩:=Eu h2 hk hq hd;cases h;exact .inr ⟨_,n,_,rfl,by simp[Instr.findNow,a1],h3⟩
  ·rename_i hq;obtain⟨a1,_⟩:=Eu h2 hk hq hd;rcases Qq hk hd (n+1) he.tail h with⟨b1,b2⟩|⟨v,i,cv,b1,b2,b3⟩
   ·exact .inl ⟨b1,by simp[Instr.findNow,a1,b2]⟩
   exact .inr ⟨v,i,cv,b1,by simp[Instr.findNow,a1,b2],b3⟩
  cases h
theorem zU{c:bv}{k:aa}{ck:Value}(hk:R M w c k ck)(h:ng k=true):∃q n,k=.int q n∧ck=.int q n:=by
 cases k<;>simp[ng]at h;cases hk;exact⟨_,_,rfl,rfl⟩
theorem lm{kt:TypeId}{q:IntKind}(hd:P.underlying kt=some (.int q))(e:Bool)(n:Nat)(v:Value):(Instr.checkKey e (n+1) kt v).run P w=.ok () w:=by
 unfold Instr.checkKey;simp only[Sem.run_bind,aK hd,Result.andThen_ok];cases v<;>rfl
theorem oq{kt:TypeId}{d:TypeDesc}{k:Value}{l:List MapEntry}{a:Option (Nat×Value)}(hd:P.underlying kt=some d)(h:Instr.findNow d k l 0=some a):(Instr.findKey kt k l).run P w=.ok a w:=by
 simp[Instr.findKey,aK hd,h]
theorem afC{c:bv}{σ:ah}(hs:cO M w c σ){m:aa}{cm:Value}(hm:R M w c m cm){es:List (aa×aa)}(h:D8 σ m=some es) :
  (cm=.map none∧es=[])∨∃r en cl,cm=.map (some r)∧w.heap[r]?=some (.map en cl)∧uL M w c es en.toList:=by
 unfold D8 at h;split at h
 ·rename_i b es';cases h;cases hm with
  |@imap _ _ _ r clock en f g h1 h2 h3 h4 h5 h6=>
   refine .inr ⟨r,en,clock,rfl,h2,by simpa using h3,fun i hi=>?_⟩;obtain⟨e,e1,e2,e3,e4⟩:=h4 i hi;refine⟨e,by simpa using e1,e4,?_,?_⟩
   ·rw[e2];exact (h5 i hi).ext (Ext.ofStill hs.sb b)
   rw[e3];exact (h6 i hi).ext (Ext.ofStill hs.sb b)
 ·cases h;cases hm;exact .inl ⟨rfl,rfl⟩
 ·rename_i id;unfold ff at h;split at h
  ·rename_i es' ho;cases h;obtain⟨b,cl,en,f,g,q1,q2,q3,q4,q5,q6⟩:=hs.obj id _ ho;have hH:c.H id=.map:=by rw[hs.H,cU ho]
   cases hm with
   |@mp _ _ blk h1 h2 h3=>
    rw[q1]at h3;cases h3;refine .inr ⟨b,en,cl,rfl,q2,by simpa using q3,fun i hi=>?_⟩;obtain⟨e,e1,e2,e3,e4⟩:=q4 i hi;exact⟨e,by simpa using e1,e4,e2▸q5 i hi,e3▸q6 i hi⟩
   |mpOld h0 h1 h2=>rw[hH]at h2;cases h2
  cases h
 cases h
theorem sU{r:Nat}{es:Array MapEntry}{clock:Nat}(hb:w.heap[r]?=some (.map es clock)):(getObj r).run P w=.ok (.map es clock) w:=by
 simp[getObj,Sem.run,hb]
theorem bm{r:Nat}{es:Array MapEntry}{clock:Nat}(o:Go.Obj)(hb:w.heap[r]?=some (.map es clock)):(setObj r o).run P w=.ok () { w with heap:=w.heap.setIfInBounds r o }:=by
 simp[setObj,Sem.run,hb]
theorem akN{c:bv}{σ:ah}(hs:cO M w c σ){m k:aa}{cm ck:Value}(hm:R M w c m cm)(hk:R M w c k ck)(hkk:ng k=true){es:List (aa×aa)}(h:D8 σ m=some es){r:Option aa}(hl:lookup k es=some r)
  {T kt et:TypeId} {q:IntKind} (hT:P.underlying T=some (.map kt et)) (hkt:P.underlying kt=some (.int q)) {zero:aa} (hz:pU M P et zero=true) (ok:Bool) :
  ∃cv,(Instr.lookup T cm ck ok).run P w=.ok cv w∧R M w c (if ok then .tup [r.getD zero,.bool r.isSome] else r.getD zero) cv:=by
 obtain⟨i,z,_,_,z3,z4⟩:=pG hz;have hzR:R M w c zero z:=rt z4;have fin:∀(x:aa) (cx:Value) (t:Bool),R M w c x cx→R M w c (if ok then .tup [x,.bool t] else x) (if ok then .tuple #[cx,.bool t] else cx):=fun x cx t hx=>by
  cases ok with
  |false=>exact hx
  |true=>
   refine .tup (fun i=>if i=0 then cx else .bool t) rfl (fun i hi=>?_) (fun i hi=>?_)
   ·simp at hi;have:i=0∨i=1:=by omega
    rcases this with rfl|rfl<;>rfl
   simp at hi;have:i=0∨i=1:=by omega
   rcases this with rfl|rfl
   ·exact hx
   exact .bool
 rcases afC hs hm h with⟨rfl,rfl⟩|⟨b,en,cl,rfl,hb,he⟩
 ·simp only[lookup,afV]at hl;subst hl;refine⟨_,?_,fin zero z false hzR⟩;simp[Instr.lookup,aK hT,lm hkt,Instr.findKey,aK hkt,Instr.findNow,z3]
 rcases Qq hk ⟨q,rfl⟩ 0 he hl with⟨rfl,h2⟩|⟨v,i,cv,rfl,h2,h3⟩
 ·refine⟨_,?_,fin zero z false hzR⟩;simp[Instr.lookup,aK hT,sU hb,lm hkt,oq hkt h2,z3]
 refine⟨_,?_,fin v cv true h3⟩;simp[Instr.lookup,aK hT,sU hb,lm hkt,oq hkt h2]
theorem F0{c:bv}{k v:aa}{ck cv:Value}(hk:R M w c k ck)(hv:R M w c v cv)(hkk:ng k=true){d:TypeDesc}(hd:∃q,d=.int q)(clock:Nat):∀{es:List (aa×aa)} {en:List MapEntry} (n:Nat) {es':List (aa×aa)},uL M w c es en→mput k v es=some es' →
  (Instr.findNow d ck en n=some none∧uL M w c es' (en++[{ key:=ck,val:=cv,born:=clock }])) ∨
  ∃i e cv0,Instr.findNow d ck en n=some (some (n+i,cv0))∧en[i]?=some e∧e.key=ck∧uL M w c es' (en.set i { e with key:=ck,val:=cv })
 |[],[],n,_,_,h=>by
  simp only[mput,afV]at h;subst h;refine .inl ⟨rfl,rfl,fun i hi=>?_⟩;have:i=0:=by simp at hi;exact hi
  subst this;exact⟨_,rfl,hkk,hk,hv⟩
 |[],_::_,_,_,h,_=>by simp[uL]at h
 |_::_,[],_,_,h,_=>by simp[uL]at h
 |x::es,e::en,n,es',he,h=>by
  obtain⟨h1,h2,h3⟩:=he.head;simp only[mput]at h;split at h
  ·rename_i hq;obtain⟨a1,a2⟩:=Eu h2 hk hq hd;cases h;have hx:=a2 rfl;obtain⟨q,m,rfl,rfl⟩:=zU hk hkk;obtain⟨q',m',e1,e2⟩:=zU h2 h1;rw[hx]at e1;cases e1;refine .inr ⟨0,e,e.val,by simp[Instr.findNow,a1],rfl,e2,by simpa using he.1,fun i hi=>?_⟩;cases i with
   |zero=>exact⟨_,rfl,h1,by rw[hx];exact hk,hv⟩
   |succ i=>
    have:=he.2 (i+1) (by simpa using hi);simpa only [List.set_cons_zero,auA,auZ] using this
  ·rename_i hq;obtain⟨a1,_⟩:=Eu h2 hk hq hd;simp only[aiu]at h;obtain⟨cQ,hes,rfl⟩:=h
   have cons:∀{en'},uL M w c cQ en'→uL M w c (x::cQ) (e::en'):=fun {en'} hh=>⟨by simpa using hh.1,fun i hi=>by
    cases i with
    |zero=>exact⟨_,rfl,h1,h2,h3⟩
    |succ i=>
     have:=hh.2 i (by simpa using hi);simpa only [auA,auZ] using this⟩
   rcases F0 hk hv hkk hd clock (n+1) he.tail hes with⟨b1,b2⟩|⟨i,e',cv0,b1,b2,b3,b4⟩
   ·exact .inl ⟨by simp[Instr.findNow,a1,b1],cons b2⟩
   exact .inr ⟨i+1,e',cv0,by simp[Instr.findNow,a1,b1];omega,by simpa using b2,b3,by simpa using cons b4⟩
  cases h
theorem acu{c:bv}{σ σ':ah}(hs:cO M w c σ){m k v:aa}{cm ck cv:Value}(hm:R M w c m cm)(hk:R M w c k ck)(hv:R M w c v cv)(h:Qa σ k v m=some σ')
  {T kt et:TypeId} {q:IntKind} (hT:P.underlying T=some (.map kt et)) (hkt:P.underlying kt=some (.int q)) :
  ∃w',(Instr.mapUpdate T cm ck cv).run P w=.ok () w'∧cO M w' c σ'∧fK c w c w':=by
 unfold Qa at h;split at h
 ·rename_i id;simp only[agx]at h;obtain⟨es,h1,h2⟩:=h;split at h2
  ·rename_i hkk;simp only[aiu]at h2;obtain⟨es',h3,rfl⟩:=h2;unfold ff at h1;split at h1
   ·rename_i es0 ho;cases h1;obtain⟨b,cl,en,f,g,q1,q2,q3,q4,q5,q6⟩:=hs.obj id _ ho;have hH:c.H id=.map:=by rw[hs.H,cU ho]
    have he:uL M w c es en.toList:=⟨by simpa using q3,fun i hi=>by
     obtain⟨e,e1,e2,e3,e4⟩:=q4 i hi;exact⟨e,by simpa using e1,e4,e2▸q5 i hi,e3▸q6 i hi⟩⟩
    have hcm:cm=.map (some b):=by
     cases hm with
     |mp a1 a2 a3=>rw[q1]at a3;cases a3;rfl
     |mpOld a0 a1 a2=>rw[hH]at a2;cases a2
    subst hcm;have hlt:=(aaN.1 ho).1;have fin:∀(en':Array MapEntry) (cl':Nat),uL M w c es' en'.toList→(Instr.mapUpdate T (.map (some b)) ck cv).run P w=.ok () { w with heap:=w.heap.setIfInBounds b (.map en' cl') } →
      ∃w',(Instr.mapUpdate T (.map (some b)) ck cv).run P w=.ok () w'∧cO M w' c (σ.set id (.map es'))∧fK c w c w':=fun en' cl' he' hrun=>by
     have hset:sJ w { w with heap:=w.heap.setIfInBounds b (.map en' cl') } b (.map en' cl'):=⟨⟨rfl,rfl,rfl,aes _⟩,rfl⟩;have hlive:c.H id≠.dead:=by rw[hH];simp
     have hbn:=hs.plow id b hlive q1;have hext:Ext c w c { w with heap:=w.heap.setIfInBounds b (.map en' cl') }:=⟨fun _ h=>h,fun _ h=>h,fun y hy=>by rw[hset.get _ hbn.1,if_neg (fun e=>by subst e;exact hbn.2 (hy.elim (fun h=>h) (hs.sb _)))],aes _,fun _ _=>.inl rfl,fun _ _ _ _=>⟨rfl,rfl,rfl⟩⟩;have hobj:wg M { w with heap:=w.heap.setIfInBounds b (.map en' cl') } c id (.map es'):=by
      refine⟨b,cl',en',fun i=>((en'[i]?).map (·.key)).getD undef,fun i=>((en'[i]?).map (·.val)).getD undef,q1,by rw[hset.get _ hbn.1,if_pos rfl],by simpa using he'.1,fun i hi=>?_,fun i hi=>?_,fun i hi=>?_⟩
      ·obtain⟨e,e1,e2,e3,e4⟩:=he'.2 i hi;have e1':en'[i]?=some e:=by simpa using e1
       exact⟨e,e1',by dsimp only;rw[e1'];rfl,by dsimp only;rw[e1'];rfl,e2⟩
      ·obtain⟨e,e1,e2,e3,e4⟩:=he'.2 i hi;have e1':en'[i]?=some e:=by simpa using e1
       dsimp only;rw[e1'];exact e3.ext hext
      obtain⟨e,e1,e2,e3,e4⟩:=he'.2 i hi;have e1':en'[i]?=some e:=by simpa using e1
      dsimp only;rw[e1'];exact e4.ext hext
     obtain⟨hsim,_⟩:=hs.setObj' ho (by simp) (by rw[cU (at7 hlt),cU ho]) q1 hset hobj;exact⟨_,hrun,hsim,fK.setB hs hlive q1 hset hext⟩
    rcases F0 hk hv hkk ⟨q,rfl⟩ cl 0 he h3 with⟨b1,b2⟩|⟨i,e,cv0,b1,b2,b3,b4⟩
    ·refine fin (en.push { key:=ck,val:=cv,born:=cl }) (cl+1) (by simpa using b2) ?_;simp[Instr.mapUpdate,aK hT,sU q2,lm hkt,oq hkt b1,bm _ q2]
    obtain⟨q',n,rfl,rfl⟩:=zU hk hkk;rw[apx]at b1;have b2':en[i]?=some e:=by simpa using b2
    have hi:i<en.size:=(ak4.1 b2').1;have hei:en[i]=e:=(ak4.1 b2').2;refine fin (en.modify i fun e=>{ e with key:=.int q' n,val:=cv }) cl ?_ ?_
    ·have:(en.modify i fun e=>{ e with key:=.int q' n,val:=cv }).toList=en.toList.set i { e with key:=.int q' n,val:=cv }:=by
      apply aup;intro j;simp only[aum,auG,atk];by_cases hij:i=j
      ·subst hij;simp[hi,hei]
      simp[hij]
     rw[this];exact b4
    have hkeep:(Instr.keyThatStays (.int q' n) (.int q' n)).run P w=.ok (.int q' n) w:=by simp[Instr.keyThatStays,Instr.sameBits]
    simp[Instr.mapUpdate,aK hT,sU q2,lm hkt,oq hkt b1,b2',b3,hkeep,bm _ q2]
   cases h1
  cases h2
 cases h
end Go.AM
namespace Go.AM
variable {M:bw} {w:World} {P:Program}
def rH(P:Program)(T:TypeId)(k:Nat):Bool:=p9 P T false 1&&(match P.underlying T with
 |some (.int _)=>k==0
 |some .bool=>k==1
 |some .string=>k==2
 |_=>false)
theorem oT{T:TypeId}(h:p9 P T false 1=true){cs:Array Value}{off:Nat}{x:Value}(hx:cs[off]?=some x):(part T cs off).run P w=.ok x w:=by
 unfold part;simp[oO h,hx]
theorem Gq{c:bv}{a b:aa}{ca cb:Value}(ha:R M w c a ca)(hb:R M w c b cb){t:Bool}(h:pa a b=some t){T:TypeId}{k:Nat}(hk:CB a=k)(hs:rH P T k=true)(d:Nat) :
  (Op.equalIn (d+1) T ca cb).run P w=.ok t w:=by
 unfold rH at hs;simp only[acz]at hs;obtain⟨_,hs⟩:=hs;unfold pa at h;split at h
 ·split at h
  ·rename_i hkk;subst hkk;cases h;cases ha;cases hb;simp only[CB]at hk;subst hk;split at hs
   ·rename_i j hj;exact run_equalIn_int w d T _ _ _ _ hj
   ·cases hs
   ·cases hs
   cases hs
  cases h
 ·cases h;cases ha;cases hb;simp only[CB]at hk;subst hk;split at hs
  ·cases hs
  ·rename_i hj;exact run_equalIn_bool w d T _ _ hj
  ·cases hs
  cases hs
 ·cases h;cases ha with|str h1=>cases hb with|str h2=>
  simp only[CB]at hk;subst hk;split at hs
  ·cases hs
  ·cases hs
  ·rename_i hj;rw[run_equalIn_string w d T _ _ hj,Zi,h1,h2]
  cases hs
 cases h
def dx(M:bw)(w:World)(c:bv)(i:Nat)(x:List aa)(xs:Array Value):Prop:=∀j (h:j<x.length),∃v,xs[i+j]?=some v∧R M w c x[j] v
theorem dx.tail{c:bv}{i:Nat}{a:aa}{x:List aa}{xs:Array Value}(h:dx M w c i (a::x) xs):dx M w c (i+1) x xs:=fun j hj=>by
 obtain⟨v,h1,h2⟩:=h (j+1) (by simpa using hj);exact⟨v,by rw[←h1];congr 1;omega,h2⟩
theorem dx.head{c:bv}{i:Nat}{a:aa}{x:List aa}{xs:Array Value}(h:dx M w c i (a::x) xs):∃v,xs[i]?=some v∧R M w c a v:=h 0 (by simp)
def sv(P:Program):Nat→List Field→List Nat→Bool
 |_,[],[]=>true
 | i,f::fs,k::ks=>f.name != "_" && f.offset == i&&rH P f.type k&&sv P (i+1) fs ks
 |_,_,_=>false
theorem GQ{c:bv}(d:Nat){xs ys:Array Value}:∀(ks:List Nat) (fs:List Field) (i:Nat) (x y:List aa) (t:Bool),sv P i fs ks=true→dx M w c i x xs→dx M w c i y ys→cX ks x y=some t →
  (Op.eqFields (d+1) xs ys fs).run P w=.ok t w
 |[],[],i,x,y,t,_,_,_,h=>by simp only[cX,afV]at h;subst h;rfl
 |[],_::_,_,_,_,_,h,_,_,_=>by simp[sv]at h
 |_::_,[],_,_,_,_,h,_,_,_=>by simp[sv]at h
 |k::ks,f::fs,i,[],y,t,_,_,_,h=>by simp[cX]at h
 |k::ks,f::fs,i,_::_,[],t,_,_,_,h=>by simp[cX]at h
 |k::ks,f::fs,i,a::x,b::y,t,hf,hx,hy,h=>by
  simp only[sv,acz,atU,afE]at hf;obtain⟨⟨⟨f1,f2⟩,f3⟩,f4⟩:=hf;have hty:p9 P f.type false 1=true:=by unfold rH at f3;simp only[acz]at f3;exact f3.1
  simp only[cX]at h;split at h
  ·rename_i hk;simp only[agx]at h;obtain⟨t1,h1,h2⟩:=h;obtain⟨v1,p1,r1⟩:=hx.head;obtain⟨v2,p2,r2⟩:=hy.head;have hc:=Gq (P:=P) r1 r2 h1 hk f3 d;subst f2;simp only[Op.eqFields,ne_eq,f1,avI,aml,Sem.run_bind,oT hty p1,oT hty p2,Result.andThen_ok,hc,Sem.run_ite];cases t1 with
   |true=>
    simp only[aml]at h2;simpa using GQ d ks fs _ x y t f4 hx.tail hy.tail h2
   |false=>
    simp at h2;subst h2;simp
  cases h
theorem ade{T:TypeId}{m:Nat}(h:p9 P T true m=true)(cs:Array Value)(off:Nat):(part T cs off).run P w=.ok (.agg (cs.extract off (off+m))) w:=by
 unfold part;simp only[Sem.run_bind,oO h,Result.andThen_ok,aml,dJ (sd h),Sem.run_pure]
def acS(P:Program)(i:Nat)(f:Field)(ks:List Nat):Bool:=f.name != "_" && f.offset == i&&p9 P f.type true ks.length&&!P.stoodInHeld f.type&&(match P.underlying f.type with
 |some (.struct gs)=>sv P 0 gs.toList ks
 |_=>false)
def oM(P:Program):Nat→List Field→List Nat→Bool
 |_,[],[]=>true
 | i,f::fs,k::ks=>(f.name != "_" && f.offset == i&&rH P f.type k&&oM P (i+1) fs ks) || (fs.isEmpty&&acS P i f (k::ks))
 |_,_,_=>false
theorem dx.extract{c:bv}{i m:Nat}{x:List aa}{xs:Array Value}(h:dx M w c i x xs)(hm:x.length≤m):dx M w c 0 x (xs.extract i (i+m)):=fun j hj=>by
 obtain⟨v,h1,h2⟩:=h j hj;refine⟨v,?_,h2⟩;rw[au6];have:=(ak4.1 h1).1;rw[if_pos (by omega),apx];exact h1
theorem AE:∀{ks:List Nat} {x y:List aa},cX ks (x.take ks.length) (y.take ks.length)=cX ks x y
 |[],_,_=>by simp[cX]
 |k::ks,[],y=>by simp[cX]
 |k::ks,a::x,[]=>by simp[cX]
 |k::ks,a::x,b::y=>by simp[cX,AE]
theorem dx.take{c:bv}{i:Nat}{x:List aa}{xs:Array Value}(h:dx M w c i x xs)(m:Nat):dx M w c i (x.take m) xs:=fun j hj=>by
 have hj':j<x.length:=by simp at hj;omega
 obtain⟨v,h1,h2⟩:=h j hj';exact⟨v,h1,by simpa using h2⟩
theorem D1{c:bv}(d:Nat){xs ys:Array Value}:∀(ks:List Nat) (fs:List Field) (i:Nat) (x y:List aa) (t:Bool),oM P i fs ks=true→dx M w c i x xs→dx M w c i y ys→cX ks x y=some t →
  (Op.eqFields (d+2) xs ys fs).run P w=.ok t w
 |[],[],i,x,y,t,_,_,_,h=>by simp only[cX,afV]at h;subst h;rfl
 |[],_::_,_,_,_,_,h,_,_,_=>by simp[oM]at h
 |_::_,[],_,_,_,_,h,_,_,_=>by simp[oM]at h
 |k::ks,f::fs,i,[],y,t,_,_,_,h=>by simp[cX]at h
 |k::ks,f::fs,i,_::_,[],t,_,_,_,h=>by simp[cX]at h
 |k::ks,f::fs,i,a::x,b::y,t,hf,hx,hy,h=>by
  simp only[oM,arX]at hf;rcases hf with hf|hf
  ·simp only[acz,atU,afE]at hf;obtain⟨⟨⟨f1,f2⟩,f3⟩,f4⟩:=hf;have hty:p9 P f.type false 1=true:=by unfold rH at f3;simp only[acz]at f3;exact f3.1
   simp only[cX]at h;split at h
   ·rename_i hk;simp only[agx]at h;obtain⟨t1,h1,h2⟩:=h;obtain⟨v1,p1,r1⟩:=hx.head;obtain⟨v2,p2,r2⟩:=hy.head;have hc:=Gq (P:=P) r1 r2 h1 hk f3 (d+1);subst f2;simp only[Op.eqFields,ne_eq,f1,avI,aml,Sem.run_bind,oT hty p1,oT hty p2,Result.andThen_ok,hc,Sem.run_ite];cases t1 with
    |true=>
     simp only[aml]at h2;simpa using D1 d ks fs _ x y t f4 hx.tail hy.tail h2
    |false=>
     simp at h2;subst h2;simp
   cases h
  simp only[acS,acz,atU,afE,List.isEmpty_iff]at hf;obtain⟨rfl,⟨⟨⟨f1,f2⟩,f3⟩,f4⟩,f5⟩:=hf;split at f5
  ·rename_i gs hgs;have hst:P.stoodInHeld f.type=false:=by simpa using f4
   have hff:P.fieldsOf f.type=gs:=by unfold Program.fieldsOf;rw[hgs]
   have hsub:∀A B:Array Value,(Op.equalIn (d+2) f.type (.agg A) (.agg B)).run P w=(Op.eqFields (d+1) A B gs.toList).run P w:=fun A B=>by
    rw[run_equalIn_struct w (d+1) f.type A B (by rw[hff];exact hgs) hst,hff]
   rw[←AE]at h;have key:=GQ d (k::ks) gs.toList 0 _ _ t f5 ((hx.take (k::ks).length).extract (m:=(k::ks).length) (by rw[al4];omega)) ((hy.take (k::ks).length).extract (m:=(k::ks).length) (by rw[al4];omega)) h;subst f2;simp only[Op.eqFields,ne_eq,f1,avI,aml,Sem.run_bind,ade f3,Result.andThen_ok,hsub,key,Sem.run_ite];cases t<;>simp
  cases f5
theorem JC{c:bv}(d:Nat){xs ys:Array Value}{e:TypeId}{k:Nat}(hs:rH P e k=true):∀(n i:Nat) (x y:List aa) (t:Bool),dx M w c i x xs→dx M w c i y ys→cX (List.replicate n k) x y=some t →
  (Op.eqItems (d+1) e 1 xs ys (List.range' i n)).run P w=.ok t w
 |0,i,x,y,t,_,_,h=>by simp only[List.replicate_zero,cX,afV]at h;subst h;rfl
 |n+1,i,[],y,t,_,_,h=>by simp[auV,cX]at h
 |n+1,i,_::_,[],t,_,_,h=>by simp[auV,cX]at h
 |n+1,i,a::x,b::y,t,hx,hy,h=>by
  have hty:p9 P e false 1=true:=by unfold rH at hs;simp only[acz]at hs;exact hs.1
  simp only[auV,cX]at h;split at h
  ·rename_i hk;simp only[agx]at h;obtain⟨t1,h1,h2⟩:=h;obtain⟨v1,p1,r1⟩:=hx.head;obtain⟨v2,p2,r2⟩:=hy.head;have hc:=Gq (P:=P) r1 r2 h1 hk hs d;simp only[avR,Op.eqItems,au2,Sem.run_bind,oT hty p1,oT hty p2,Result.andThen_ok,hc,Sem.run_ite];cases t1 with
   |true=>
    simp only[aml]at h2;simpa using JC d hs n (i+1) x y t hx.tail hy.tail h2
   |false=>
    simp at h2;subst h2;simp
  cases h
def ake(P:Program)(T:TypeId)(ks:List Nat):Bool:=!P.eqGuardType P.depth T&&(match P.underlying T with
 |some (.struct fs)=>!P.stoodInHeld T&&oM P 0 fs.toList ks
 |some (.array n e)=>(match ks with
  |k::_=>rH P e k&&ks==List.replicate n k
  |[]=>false)
 |_=>false)
theorem nD.from{c:bv}{cs:List aa}{A:Array Value}(h:nD M w c cs A):dx M w c 0 cs A:=fun j hj=>by
 obtain⟨v,h1,_,h3⟩:=h.2 j hj;exact⟨v,by rw[apx];exact h1,h3⟩
theorem anx{c:bv}{x y v:aa}{cx cy:Value}(hx:R M w c x cx)(hy:R M w c y cy){n:Bool}{ks:List Nat}(h:eqa n ks x y=some v){T:TypeId}(hT:ake P T ks=true){op:BinOp}(hop:op=if n then .neq else .eql)(ox oy:Operand) :
  ∃cv,(do eqGuard op T ox oy cx cy;binOp op T cx cy:Sem Value).run P w=.ok cv w∧R M w c v cv:=by
 unfold eqa at h;split at h
 ·rename_i a b;simp only[aiu]at h;obtain⟨t,h1,rfl⟩:=h;unfold ake at hT;simp only[acz]at hT;obtain⟨hg,hT⟩:=hT;have hg':P.eqGuardType P.depth T=false:=by simpa using hg
  cases hx with|@agg _ _ xs f1 a1 a2 a3 a4=>cases hy with|@agg _ _ ys g1 b1 b2 b3 b4=>
  have hxs:nD M w c a xs:=R.rcells (.agg f1 a1 a2 a3 a4);have hys:nD M w c b ys:=R.rcells (.agg g1 b1 b2 b3 b4);have key:(Op.equalIn 10000 T (.agg xs) (.agg ys)).run P w=.ok t w:=by
   split at hT
   ·rename_i fs hfs;simp only[acz]at hT;have hst:P.stoodInHeld T=false:=by simpa using hT.1
    have hff:P.fieldsOf T=fs:=by unfold Program.fieldsOf;rw[hfs]
    rw[run_equalIn_struct w 9999 T xs ys (by rw[hff];exact hfs) hst,hff];exact D1 9997 ks fs.toList 0 a b t hT.2 hxs.from hys.from h1
   ·rename_i n e hne;split at hT
    ·rename_i k ks';simp only[acz,afE]at hT;obtain⟨hT1,hT2⟩:=hT;have hty:p9 P e false 1=true:=by unfold rH at hT1;simp only[acz]at hT1;exact hT1.1
     have hsz:=sd hty;cases hi:P.info? e with
     |none=>rw[hi]at hsz;cases hsz
     |some i=>
      rw[hi]at hsz;have hc1:P.cellsOf e=1:=by unfold Program.cellsOf;rw[hi];simpa using hsz
      rw[run_equalIn_array w 9999 xs ys hne hi,hc1,avY];rw[hT2]at h1;exact JC 9998 hT1 n 0 a b t hxs.from hys.from h1
    cases hT
   cases hT
  refine⟨.bool (if n then !t else t),?_,.bool⟩;subst hop;cases n
  ·simp only[ai1,ali,Sem.run_bind,run_eqGuard_agg w .eql T ox oy xs ys hg',Result.andThen_ok,run_eql_struct,key]
  simp only[aml,Sem.run_bind,run_eqGuard_agg w .neq T ox oy xs ys hg',Result.andThen_ok,run_neq_struct,key]
 cases h
theorem amo{c:bv}{x y v:aa}{cx cy:Value}(hx:R M w c x cx)(hy:R M w c y cy){n:Bool}(h:eqb n x y=some v){T:TypeId}(hT:P.underlying T=some .bool){op:BinOp}(hop:op=if n then .neq else .eql)(ox oy:Operand) :
  ∃cv,(do eqGuard op T ox oy cx cy;binOp op T cx cy:Sem Value).run P w=.ok cv w∧R M w c v cv:=by
 unfold eqb at h;split at h
 ·cases h;cases hx;cases hy;rename_i a b;refine⟨.bool (if n then !(a==b) else (a==b)),?_,.bool⟩;have key:(Op.equal T (.bool a) (.bool b)).run P w=.ok (a==b) w:=run_equalIn_bool w 9999 T a b hT;subst hop;cases n
  ·simp only[ai1,ali,Sem.run_bind,qF .eql T ox oy (.inr (.inr ⟨a,rfl⟩)),Result.andThen_ok];simp[binOp,key]
  simp only[aml,Sem.run_bind,qF .neq T ox oy (.inr (.inr ⟨a,rfl⟩)),Result.andThen_ok];simp[binOp,key]
 cases h
theorem akq{c:bv}{σ:ah}(hs:cO M w c σ){x v:aa}{cx:Value}(hx:R M w c x cx){n:Bool}(h:pw n σ x=some v){T e:TypeId}(hT:P.underlying T=some (.slice e)){op:BinOp}(hop:op=if n then .neq else .eql)(ox oy:Operand) :
  ∃cv,(do eqGuard op T ox oy cx (.slice none 0 0);binOp op T cx (.slice none 0 0):Sem Value).run P w=.ok cv w∧R M w c v cv:=by
 have key:∃a l k,cx=.slice a l k∧v=neg n a.isNone:=by
  unfold pw at h;split at h
  ·cases h;cases hx with|emp h=>exact⟨_,_,_,rfl,by rw[h]⟩
  ·cases h
  split at h
  ·rename_i hne _ y ys hrd;cases h;cases hx<;>first|(simp[rd]at hrd;done)|skip
   case str=>exact absurd rfl (hne _)
   case wh=>exact⟨_,_,_,rfl,rfl⟩
   case lst=>exact⟨_,_,_,rfl,rfl⟩
   case sl=>exact⟨_,_,_,rfl,rfl⟩
   case sl0 h1 h2=>
    simp only[rd]at hrd;unfold sliceAt at hrd;split at hrd
    ·split at hrd
     ·simp at hrd
     cases hrd
    cases hrd
   case slOld=>
    rename_i h2 _ _ _ _;simp only[rd]at hrd;unfold sliceAt at hrd;split at hrd
    ·rename_i k e es ho;split at hrd
     ·rename_i hc;have:=h2 k e (by rw[hs.H,cU ho]);omega
     cases hrd
    cases hrd
  cases h
 obtain⟨a,l,k,rfl,rfl⟩:=key;have hq:(Op.equal T (.slice a l k) (.slice none 0 0)).run P w=.ok a.isNone w:=by
  unfold Op.equal Op.maxDepth;unfold Op.equalIn;simp only[Sem.run_bind,aK hT,Result.andThen_ok];cases a<;>rfl
 have hg:(eqGuard op T ox oy (.slice a l k) (.slice none 0 0)).run P w=.ok () w:=by
  unfold eqGuard;subst hop;cases n<;>simp
 refine⟨.bool (if n then !a.isNone else a.isNone),?_,.bool⟩;simp only[Sem.run_bind,hg,Result.andThen_ok];subst hop;cases n
 ·simp[binOp,hq]
 simp[binOp,hq]
end Go.AM
namespace Go.AM
variable {M:bw} {w:World} {P:Program}
theorem acZ{c:bv}{op:BinOp}{T:TypeId}{a b:ByteArray}{v:aa}(h:eY op a.data.toList b.data.toList=some v) :
  ∃cv,(binOp op T (.string a) (.string b)).run P w=.ok cv w∧R M w c v cv:=by
 have hb:∀op,(binOp op T (.string a) (.string b))=Op.stringOp op a b:=fun op=>by cases op<;>rfl
 rw[hb];have e1:a.toList=a.data.toList:=ByteArray.toList_eq ..;have e2:b.toList=b.data.toList:=ByteArray.toList_eq ..;have hm:most=68719476736:=rfl;cases op<;>simp only[eY]at h<;>first|(cases h;done)|skip
 case add=>
  split at h
  ·rename_i hl;cases h;have hn:¬(((a.size+b.size:Nat):Int)>IntKind.i64.max):=by
    have ha:a.data.toList.length=a.size:=by rw[ath];rfl
    have hb':b.data.toList.length=b.size:=by rw[ath];rfl
    have:IntKind.i64.max=9223372036854775807:=by decide
    rw[this];omega
   refine⟨.string (a++b),?_,.str (by simp[ByteArray.data_append])⟩;simp only[Op.stringOp,hn,ali];rfl
  cases h
 all_goals
  cases h;refine⟨.bool _,?_,.bool⟩;simp only[Op.stringOp,e1,e2];rfl
theorem acC{c:bv}{x v:aa}{cx:Value}(hx:R M w c x cx){n l h:Nat}(hn:I6 x=some n){lo hi:Option Value}(hlo:(lo=none∧l=0)∨∃k,lo=some (.int k (l:Int)))
  (hhi:(hi=none∧h=n)∨∃k,hi=some (.int k (h:Int))) (hv:Ij x l h=some v) {T:TypeId} (hT:P.underlying T=some .string) :
  ∃cv,(Instr.sliceAt T cx lo hi none).run P w=.ok cv w∧R M w c v cv:=by
 obtain⟨s,t,rfl,rfl,hs,hz⟩:=aac hx hn;simp only[Ij]at hv;split at hv
 ·rename_i hc;cases hv;have hl:s.length=t.size:=by rw[←hs,ath];rfl
  refine⟨.string (t.extract l h),?_,.str (by rw[ByteArray.data_extract,Array.toList_extract,hs])⟩;have hb:=zq (P:=P) (w:=w) (len:=t.size) (cap:=t.size) (isS:=false) hlo (by rw[hz];exact hhi) hc.1 (by omega);simp[Instr.sliceAt,aK hT,Instr.slice,hb]
 cases hv
theorem alm{c:bv}{x v:aa}{cx ci:Value}(hx:R M w c x cx){n:Nat}(hi:∃k,ci=.int k (n:Int))(h:Qf n x=some v){T:TypeId}(hT:P.underlying T=some .string) :
  ∃cv,(Instr.index T cx ci).run P w=.ok cv w∧R M w c v cv:=by
 obtain⟨k,rfl⟩:=hi;unfold Qf at h;split at h
 ·cases hx with|@str _ s t ht=>
  simp only[aiu]at h;obtain⟨b,h1,rfl⟩:=h;have h2:t[n]?=some b:=by
   rw[←ht]at h1;have h3:t.data[n]?=some b:=by simpa using h1
   obtain⟨h4,h5⟩:=ak4.1 h3;have h6:n<t.size:=h4;rw[getElem?_pos t n h6];exact congrArg some h5
  refine⟨_,?_,.int⟩;simp[Instr.index,asIntOf,aK hT,h2]
 cases h
theorem Hu{c:bv}(lt:Bool):∀(ys:List aa) (cys:List Value) (x v:aa) (cx:Value),R M w c x cx→cys.length=ys.length→(∀i (h:i<ys.length) (h':i<cys.length),R M w c ys[i] cys[i])→tB lt x ys=some v →
  ∃cv,(cys.foldlM (if lt then Builtin.min2 else Builtin.max2) cx).run P w=.ok cv w∧R M w c v cv
 |[],[],x,v,cx,hx,_,_,h=>by simp only[tB,afV]at h;subst h;exact⟨cx,rfl,hx⟩
 |[],_::_,_,_,_,_,h,_,_=>by simp at h
 |_::_,[],_,_,_,_,h,_,_=>by simp at h
 |y::ys,cy::cys,x,v,cx,hx,hl,hr,h=>by
  have hy:=hr 0 (by simp) (by simp);simp only[ata]at hy;unfold tB at h;split at h
  ·rename_i he;cases he
  ·rename_i k a k' b r he1;injection he1 with e1 e2;subst e1 e2;split at h
   ·rename_i hk;subst hk;cases hx;cases hy;obtain⟨cv,h1,h2⟩:=Hu lt ys cys _ v _ (.int (M:=M) (w:=w) (c:=c)) (by simpa using hl) (fun i hi hi'=>by have:=hr (i+1) (by simpa using hi) (by simpa using hi');simpa using this) h;refine⟨cv,?_,h2⟩;rw[List.foldlM_cons,Sem.run_bind];cases lt
    ·have e:((if false=true then Builtin.min2 else Builtin.max2) (.int k a) (.int k b)).run P w=.ok (.int k (if b>a then b else a)) w:=rfl;rw[e];simpa using h1
    have e:((if true=true then Builtin.min2 else Builtin.max2) (.int k a) (.int k b)).run P w=.ok (.int k (if b<a then b else a)) w:=rfl;rw[e];simpa using h1
   cases h
  cases h
theorem abK{c:bv}{σ:ah}(hs:cO M w c σ){x v:aa}{cx:Value}(hx:R M w c x cx){n:Nat}(h:abb σ n x=some v){T e:TypeId}(hT:P.underlying T=some (.array n e))(hk:(P.info? e).map (·.size)=some 1)(hn:n≠0) :
  ∃cv,(Instr.sliceAt T cx none none none).run P w=.ok cv w∧R M w c v cv:=by
 unfold abb at h;split at h
 ·split at h
  ·rename_i id ep i o hf;cases h;obtain⟨k,b,h1,h2,h3,rfl⟩:=wJ hs hx hf;refine⟨_,?_,.asl h1 h2 h3⟩;have hb:=zq (P:=P) (w:=w) (len:=n) (cap:=n) (isS:=false) (l:=0) (h:=n) (lo:=none) (hi:=none) (.inl ⟨rfl,rfl⟩) (.inl ⟨rfl,rfl⟩) (amn _) (aes _);simp[Instr.sliceAt,aK hT,Instr.sureAddr,hb,dJ hk,hn,gT]
  cases h
 cases h
theorem cO.setRow{c:bv}{σ:ah}{w':World}(hs:cO M w c σ){id k ep b:Nat}{es es':List aa}(ho:σ[id]?=some (.arr k ep es))(hb:c.place id=some b){cs cs':Array Value}{T:TypeId}(hcs:w.heap[b]?=some (.cells cs T (0,0)))
  (hw:sJ w w' b (.cells cs' T (0,0))) (hz:cs'.size=cs.size) (hroom:c.room id=cs.size) (hk:k≠0) (hall:∀x∈es',aw x=k) (hlen:es'.length*k≤cs.size) (f:Nat→Nat→Value)
  (hc:∀i j,i<es'.length→j<k→cs'[i*k+j]?=some (f i j)∧(f i j).oneCell'=true) (hr:∀i (hi:i<es'.length) j (hj:j<(cellsOf es'[i]).length),R M w c (cellsOf es'[i])[j] (f i j)) :
  cO M w' c (σ.set id (.arr k ep es'))∧fK c w c w':=by
 have hlive:c.H id≠.dead:=by rw[hs.H,cU ho];simp
 have hbn:=hs.plow id b hlive hb;have hext:Ext c w c w':=⟨fun _ h=>h,fun _ h=>h,fun y hy=>by rw[hw.get _ hbn.1,if_neg (fun e=>by subst e;exact hbn.2 (hy.elim (fun h=>h) (hs.sb _)))],aes _,fun _ _=>.inl rfl,fun _ _ _ _=>⟨rfl,rfl,rfl⟩⟩
 have hobj:wg M w' c id (.arr k ep es'):=⟨hk,hall,fun hn=>(by rw[hb]at hn;cases hn),fun b' hb'=>by
  rw[hb]at hb';cases hb';exact⟨cs',T,f,by rw[hw.get _ hbn.1,if_pos rfl],by omega,by rw[hz];exact hroom,hc,fun i hi j hj=>(hr i hi j hj).ext hext⟩⟩
 exact⟨(hs.setObj ho hb hw hobj).1,fK.setB hs hlive hb hw hext⟩
theorem sl_inv{c:bv}{σ:ah}(hs:cO M w c σ){id ep off n:Nat}{cx:Value}(hx:R M w c (.sl id ep off n) cx){k:Nat}{es:List aa}(ho:σ[id]?=some (.arr k ep es)) :
  (n=0∧∃a cap,cx=.slice a 0 cap)∨∃b cap,c.place id=some b∧cx=.slice (some ⟨b,off*k,none⟩) n cap:=by
 have hH:c.H id=.arr k ep:=by rw[hs.H,cU ho]
 cases hx with
 |sl h1 h2 h3 h4 h5=>rw[hH]at h2;cases h2;exact .inr ⟨_,_,h3,rfl⟩
 |sl0=>exact .inl ⟨rfl,_,_,rfl⟩
 |slOld h0 h1 h2=>exact absurd (h2 _ _ hH) (ato _)
theorem RQ{α:Type}{p:α→Prop}{es ys:List α}{a b:Nat}(h1:∀x∈es,p x)(h2:∀x∈ys,p x):∀x∈es.take a++ys++es.drop b,p x:=fun x hx=>by
 rcases aoS.1 hx with hx|hx
 ·rcases aoS.1 hx with hx|hx
  ·exact h1 x (akt hx)
  exact h2 x hx
 exact h1 x (asW hx)
theorem cO.lay{c:bv}{σ:ah}(hs:cO M w c σ){id k ep b off:Nat}{es ys:List aa}(ho:σ[id]?=some (.arr k ep es))(hb:c.place id=some b){A:Array Value}(hA:kw M w c k ys A)(hall:∀x∈ys,aw x=k)(hfit:off+ys.length≤es.length) :
  ∃w',(storeCells ⟨b,off*k,none⟩ A.toList).run P w=.ok () w'∧cO M w' c (σ.set id (.arr k ep (es.take off++ys++es.drop (off+ys.length))))∧fK c w c w':=by
 obtain⟨o1,o2,o3,o4⟩:=hs.obj id _ ho;obtain⟨cs,T,F,q1,q2,q3,q4,q5⟩:=o4 b hb;obtain⟨a1,g,a2,a3⟩:=hA;have hm:(off+ys.length)*k≤es.length*k:=arf k hfit;rw[atx]at hm
 obtain⟨w',cs',hr,hw,hz,hj⟩:=ji (P:=P) b (off*k) T A.toList 0 cs w q1 (by simp[a1];omega) (fun v hv=>by
  obtain⟨p,hp,rfl⟩:=ati.1 hv;simp only[ath,a1]at hp;have hk:0<k:=aul o1;have h1:p/k<ys.length:=(avf hk).2 hp;have h2:p%k<k:=Nat.mod_lt _ hk;have:=a2 _ _ h1 h2;have e:p/k*k+p%k=p:=by have:=avW p k;rw[aux]at this;omega
  rw[e]at this;rw[atl (by omega)]at this;simp only[auN];rw[as7 this.1];exact this.2)
 have hlen:(es.take off++ys++es.drop (off+ys.length)).length=es.length:=by simp;omega
 have hcs':∀p,cs'[p]?=if off*k≤p∧p<off*k+ys.length*k then A[p-off*k]? else cs[p]?:=fun p=>by
  rw[hj p];simp only[at9,ath,a1,aum]
 refine⟨w',hr,hs.setRow ho hb q1 hw hz q3 o1 (RQ o2 hall) (by rw[hlen];omega) (fun i j=>if off≤i∧i<off+ys.length then g (i-off) j else F i j) (fun i j hi hj=>?_) (fun i hi j hj=>?_)⟩
 ·rw[hlen]at hi;rw[hcs'];by_cases hc:off≤i∧i<off+ys.length
  ·rw[if_pos hc];have e1:i*k+j-off*k=(i-off)*k+j:=by rw[Nat.sub_mul];have:=arf k hc.1;omega
   have e2:=nE (i:=i-off) (j:=j) (k:=k) (n:=ys.length) (by omega) hj;have e3:=arf k hc.1;rw[if_pos ⟨by omega,by omega⟩,e1];exact a2 (i-off) j (by omega) hj
  rw[if_neg hc,if_neg]
  ·exact q4 i j hi hj
  rintro⟨b1,b2⟩;rw[←Nat.add_mul]at b2;apply hc;constructor
  ·by_cases h:off≤i
   ·exact h
   have:(i+1)*k≤off*k:=arf k (by omega);rw[atx]at this;omega
  by_cases h:i<off+ys.length
  ·exact h
  have:(off+ys.length)*k≤i*k:=arf k (by omega);omega
 rw[hlen]at hi;by_cases h1:i<off
 ·have e:(es.take off++ys++es.drop (off+ys.length))[i]'(by rw[hlen];exact hi)=es[i]:=by
   rw[amd (by simp;omega),amd (by simp;omega),atK]
  simp only[e]at hj ⊢;rw[if_neg (by omega)];exact q5 i hi j hj
 by_cases h2:i<off+ys.length
 ·have e:(es.take off++ys++es.drop (off+ys.length))[i]'(by rw[hlen];exact hi)=ys[i-off]'(by omega):=by
   rw[amd (by simp;omega),arK (by simp;omega)];have:i-(es.take off).length=i-off:=by rw[al4,atw (by omega)]
   simp only[this]
  simp only[e]at hj ⊢;rw[if_pos ⟨by omega,h2⟩];exact a3 (i-off) (by omega) j hj
 have e:(es.take off++ys++es.drop (off+ys.length))[i]'(by rw[hlen];exact hi)=es[i]:=by
  rw[arK (by simp;omega)];simp only[atM];congr 1;simp;omega
 simp only[e]at hj ⊢;rw[if_neg (by omega)];exact q5 i hi j hj
theorem apN{c:bv}{σ σ':ah}(hs:cO M w c σ){x zero:aa}{cx:Value}(hx:R M w c x cx)(h:Z9 σ zero x=some σ'){T ty e:TypeId}(hT:P.underlying T=some (.slice e))(hz:pU M P e zero=true) :
  ∃cv w',(Builtin.clear_ #[T] ty #[cx]).run P w=.ok cv w'∧cO M w' c σ'∧fK c w c w':=by
 obtain⟨i,z,_,_,z3,z4⟩:=pG hz;have hzR:R M w c zero z:=rt z4;unfold Z9 at h;split at h
 ·rename_i id ep off n;split at h
  ·rename_i k e' es ho;split at h
   ·rename_i hc;obtain⟨rfl,hfit,hzk⟩:=hc;cases h;obtain⟨o1,_⟩:=hs.obj id _ ho;rcases sl_inv hs hx ho with⟨rfl,a,cap,rfl⟩|⟨b,cap,hb,rfl⟩
    ·have e1:es.take off++List.replicate 0 zero++es.drop (off+0)=es:=by simp
     have e2:σ.set id (.arr k e' es)=σ:=by
      apply aup;intro j;rw[atk];split
      ·rename_i hj;subst hj;split
       ·exact ho.symm
       rename_i hlt;rw[aud (by omega)]
      rfl
     rw[e1,e2];refine⟨.tuple #[],w,?_,hs,.refl c w⟩;cases a<;>simp[Builtin.clear_,aK hT]
    by_cases hn:n=0
    ·subst hn;have e1:es.take off++List.replicate 0 zero++es.drop (off+0)=es:=by simp
     have e2:σ.set id (.arr k e' es)=σ:=by
      apply aup;intro j;rw[atk];split
      ·rename_i hj;subst hj;split
       ·exact ho.symm
       rename_i hlt;rw[aud (by omega)]
      rfl
     rw[e1,e2];refine⟨.tuple #[],w,?_,hs,.refl c w⟩;simp[Builtin.clear_,aK hT]
    obtain⟨g,hg,hgs,hgc⟩:=oo hzR (by omega);have hA:kw M w c k (List.replicate n zero) (Builtin.zeroCells z.cells n):=by
     have hsz:z.cells.size=k:=by omega
     refine⟨by simp[Builtin.zeroCells,hsz],fun _ j=>g j,fun i j hi hj=>?_,fun i hi j hj=>?_⟩
     ·have hi':i<n:=by simpa using hi
      have hlt:=nE hi' hj;have e1:(i*k+j)%k=j:=by rw[aux,avq,avk hj]
      have e2:=hgc j (by omega);have e3:z.cells[j]! = g j:=by rw[getElem!_def,e2]
      refine⟨?_,hg.one j (by omega)⟩;simp[Builtin.zeroCells,hsz,hlt,e1,e3]
     have e1:(List.replicate n zero)[i]=zero:=au8 ..;simp only[e1]at hj ⊢;exact hg.rel j hj
    obtain⟨w',h1,h2,h3⟩:=hs.lay (P:=P) (off:=off) ho hb hA (fun x hx=>by rw[(List.mem_replicate.1 hx).2];exact hzk) (by simpa using hfit);simp only[List.length_replicate]at h2;refine⟨.tuple #[],w',?_,h2,h3⟩;obtain⟨m,rfl⟩:=Nat.exists_eq_succ_of_ne_zero hn;simp[Builtin.clear_,aK hT,z3,h1]
   cases h
  cases h
 ·cases h;cases hx with|@yz _ a=>
  refine⟨.tuple #[],w,?_,hs,.refl c w⟩;cases a<;>simp[Builtin.clear_,aK hT]
 cases h
theorem XV{a:Addr}{v:Value}{w1:World}(h:(load a).run P w=.ok v w1):w1=w:=by
 rw[run_load]at h;split at h
 ·cases h;rfl
 split at h<;>cases h;rfl
theorem DG(a:Addr):∀(n i:Nat) (acc arr:Array Value) (w':World),(loadCellsFrom a i n acc).run P w=.ok arr w' →
  ∃l:List Value,l.length=n∧arr=acc++l.toArray∧∀j v,l[j]?=some v→(load (a.add (i+j))).run P w=.ok v w
 |0,i,acc,arr,w',h=>by
  simp[loadCellsFrom]at h;exact⟨[],rfl,by simp[h.1],by simp⟩
 |n+1,i,acc,arr,w',h=>by
  unfold loadCellsFrom at h;rw[Sem.run_bind]at h;cases hr:(load (a.add i)).run P w with
  |halt hh w1=>
   rw[hr]at h;cases h
  |ok v w1=>
   have e:w1=w:=XV hr;rw[e]at hr;rw[hr]at h;obtain⟨l,hl,harr,hall⟩:=DG a n (i+1) (acc.push v) arr w' h;refine⟨v::l,by simp[hl],by simp[harr],?_⟩;intro j u hj;cases j with
   |zero=>
    simp at hj;subst hj;simpa using hr
   |succ j=>
    have:=hall j u (by simpa using hj);rw[show i+(j+1)=i+1+j by omega];exact this
theorem ZH{a:Addr}{n m:Nat}(hm:m≤n){A:Array Value}{w':World}(h:(loadCells a n).run P w=.ok A w'):(loadCells a m).run P w=.ok (A.extract 0 m) w:=by
 obtain⟨l,hl,hA,hall⟩:=DG a n 0 #[] A w' h;have e:A.extract 0 m=(l.take m).toArray:=by
  rw[hA];apply Array.ext';simp
 rw[e];have hlen:(l.take m).length=m:=by rw[al4];omega
 have key:∀(q i:Nat) (acc:Array Value) (l':List Value),l'.length=q→(∀j v,l'[j]?=some v→(load (a.add (i+j))).run P w=.ok v w)→(loadCellsFrom a i q acc).run P w=.ok (acc++l'.toArray) w:=by
  intro q;induction q with
  |zero=>intro i acc l' h1 _;simp[loadCellsFrom,ahc h1]
  |succ q ih=>
   intro i acc l' h1 h2
   match l',h1 with
   |v::r,h1=>
    have h3:=h2 0 v rfl;simp only[at9]at h3;simp only[loadCellsFrom,Sem.run_bind,h3,Result.andThen]
    rw[ih (i+1) (acc.push v) r (by simpa using h1) (fun j u hj=>by
     have:=h2 (j+1) u (by simpa using hj)
     rwa [show i+(j+1)=i+1+j by omega]at this)]
    congr 1;apply Array.ext';simp
 have:=key m 0 #[] (l.take m) hlen (fun j v hj=>hall j v (by
  rw[auj]at hj;split at hj
  ·exact hj
  cases hj))
 simpa [loadCells] using this
theorem VO{c:bv}{σ:ah}(hs:cO M w c σ){y:aa}{cy:Value}(hy:R M w c y cy){n:Nat}{ys:List aa}(h:Kt σ n y=some ys)(hle:ys.length≤n){k:Nat}(hk:k≠0)(hall:∀x∈ys,aw x=k) :
  ∃L,Nat.min L n=ys.length∧(∀w',(Builtin.lenOf cy).run P w'=.ok L w')∧∃A,kw M w c k ys A∧∀w',w'.heap=w.heap→(Builtin.firstCells k ys.length cy).run P w'=.ok A w':=by
 unfold Kt at h;split at h
 ·rename_i id ep off len;obtain⟨l,hl,rfl⟩:=aiu.1 h;have hl':=hl;simp only[rd,sliceAt]at hl';split at hl'
  ·rename_i k' e es ho;split at hl'
   ·rename_i hc;obtain⟨rfl,hfit⟩:=hc;cases hl';have hll:((es.drop off).take len).length=len:=by simp;omega
    rcases sl_inv hs hy ho with⟨rfl,a,cap,rfl⟩|⟨b,cap,hb,rfl⟩
    ·refine⟨0,by simp,fun w'=>rfl,#[],by simpa using kw.nil,fun w' _=>?_⟩;cases a<;>simp[Builtin.firstCells,loadCells,loadCellsFrom]
    refine⟨len,by rw[al4,hll];exact Nat.min_comm ..,fun w'=>rfl,?_⟩;by_cases h0:((es.drop off).take len).take n=[]
    ·rw[h0];exact⟨#[],kw.nil,fun w' _=>by simp[Builtin.firstCells,loadCells,loadCellsFrom]⟩
    obtain⟨_,o2,_⟩:=hs.obj id _ ho;have hkk:k'=k:=by
     obtain⟨x,hx⟩:=atc _ h0;rw[←hall x hx];exact (o2 x (asW (akt (akt hx)))).symm
    subst hkk;obtain⟨_,A,⟨a1,f,a2,a3⟩,r3⟩:=akW (P:=P) hs hy hl hk (fun x hx=>o2 x (asW (akt hx)));have hmle:(((es.drop off).take len).take n).length≤len:=by simp only[al4,atj];omega
    rw[hll]at a1 a2 r3;have hmk:(((es.drop off).take len).take n).length*k'≤len*k':=arf k' hmle;refine⟨A.extract 0 ((((es.drop off).take len).take n).length*k'),⟨by rw[Array.size_extract];omega,f,fun i j hi hj=>?_,fun i hi j hj=>?_⟩,fun w' hw=>ZH hmk (r3 w' hw)⟩
    ·have hlt:=nE (n:=(((es.drop off).take len).take n).length) hi hj;have:=a2 i j (by omega) hj;refine⟨?_,this.2⟩;rw[au6,if_pos (by omega),apx];exact this.1
    have e1:(((es.drop off).take len).take n)[i]=((es.drop off).take len)[i]'(by omega):=atK ..;simp only[e1]at hj ⊢;exact a3 i (by omega) j hj
   cases hl'
  cases hl'
 obtain⟨r1,A,hA,r3⟩:=akW (P:=P) hs hy h hk hall;exact⟨ys.length,atw hle,r1,A,hA,r3⟩
theorem FM{T U ty e:TypeId}{k:Nat}(hT:P.underlying T=some (.slice e))(hk:(P.info? e).map (·.size)=some k){a:Option Addr}{n cap L m:Nat}{cy:Value}{A:Array Value}{w':World}(hl:(Builtin.lenOf cy).run P w=.ok L w)(hm:Nat.min L n=m)(hf:(Builtin.firstCells k m cy).run P w=.ok A w)
  (hst:∀b,a=some b→(storeCells b A.toList).run P w=.ok () w') (hn:a=none→w'=w):(Builtin.copy_ #[T,U] ty #[.slice a n cap,cy]).run P w=.ok (.int .i64 m) w':=by
 cases a with
 |none=>obtain rfl:=hn rfl;simp[Builtin.copy_,aK hT,hl,hm,dJ hk,hf,goInt]
 |some b=>have:=hst b rfl;simp[Builtin.copy_,aK hT,hl,hm,dJ hk,hf,this,goInt]
theorem ale{c:bv}{σ σ':ah}(hs:cO M w c σ){x y:aa}{cx cy:Value}(hx:R M w c x cx)(hy:R M w c y cy){ys:List aa}(hrd:Kt σ (aeF x) y=some ys){k:Nat}(h:ON σ k ys x=some σ'){T U ty e:TypeId}(hT:P.underlying T=some (.slice e))(hk:(P.info? e).map (·.size)=some k) :
  ∃w',(Builtin.copy_ #[T,U] ty #[cx,cy]).run P w=.ok (.int .i64 (ys.length:Int)) w'∧cO M w' c σ'∧fK c w c w':=by
 unfold ON at h;split at h
 ·rename_i id ep i off n;split at h
  ·rename_i k' e' es ho;split at h
   ·rename_i hc;obtain⟨rfl,rfl,hle,hall⟩:=hc;simp only[agx]at h;obtain⟨x0,hx0,h⟩:=h;split at h
    ·rename_i hc2;obtain⟨hagg,hfit⟩:=hc2;cases h;have hH:c.H id=.arr k' e':=by rw[hs.H,cU ho]
     obtain⟨b,hb,rfl⟩:∃b,c.place id=some b∧cx=.slice (some ⟨b,i*k'+off,none⟩) n n:=by
      cases hx with
      |asl h1 h2 h3=>rw[hH]at h2;cases h2;exact⟨_,h3,rfl⟩
      |aslOld h1 h2=>exact absurd (h2 _ _ hH) (ato _)
     have hall1:∀y∈ys,aw y=1∧isAgg y=false:=fun y hy=>by
      have:=afz.1 hall y hy;simpa using this
     obtain⟨L,hL,r1,A,⟨a1,g,a2,a3⟩,r3⟩:=VO (P:=P) hs hy hrd hle (k:=1) (by omega) (fun y hy=>(hall1 y hy).1);obtain⟨o1,o2,o3,o4⟩:=hs.obj id _ ho;obtain⟨cs,T',F,q1,q2,q3,q4,q5⟩:=o4 b hb;obtain⟨hi,hxe⟩:=aaN.1 hx0;have hnx:aw x0=k':=by rw[←hxe];exact o2 _ (agL _)
     have hcl:=kI (v:=x0) (by omega);have hrow:i*k'+k'≤es.length*k':=by have:(i+1)*k'≤es.length*k':=arf k' hi;rwa [atx,Nat.one_mul]at this
     obtain⟨w',cs',hr,hw,hz,hj⟩:=ji (P:=P) b (i*k'+off) T' A.toList 0 cs w q1 (by simp[a1];omega) (fun v hv=>by
      obtain⟨p,hp,rfl⟩:=ati.1 hv;simp only[ath,a1,au2]at hp;have:=a2 p 0 hp (by omega);rw[au2,at9,atl (by omega)]at this;simp only[auN];rw[as7 this.1];exact this.2)
     have hcs':∀p,cs'[p]?=if i*k'+off≤p∧p<i*k'+off+ys.length then A[p-(i*k'+off)]? else cs[p]?:=fun p=>by
      rw[hj p];simp only[at9,ath,a1,aum,au2]
     have hnl:((cellsOf x0).take off++ys++(cellsOf x0).drop (off+ys.length)).length=k':=by simp;omega
     have hset:=hs.setRow (es':=es.set i (.agg ((cellsOf x0).take off++ys++(cellsOf x0).drop (off+ys.length)))) ho hb q1 hw hz q3 o1 (fun y hy=>by
       rcases aua hy with h|h
       ·exact o2 y h
       ·rw[h];exact hnl) (by simpa using q2) (fun i' j=>if i'=i∧off≤j∧j<off+ys.length then g (j-off) 0 else F i' j) (fun i' j hi' hj'=>by
       simp only[auF]at hi';rw[hcs'];by_cases hii:i'=i
       ·subst hii;by_cases hcc:off≤j∧j<off+ys.length
        ·rw[if_pos ⟨by omega,by omega⟩,if_pos ⟨rfl,hcc⟩];have e1:i' * k'+j-(i' * k'+off)=(j-off)*1+0:=by omega
         rw[e1];exact a2 (j-off) 0 (by omega) (by omega)
        rw[if_neg (by omega),if_neg (fun h=>hcc h.2)];exact q4 i' j hi' hj'
       have hno:¬(i*k'+off≤i' * k'+j∧i' * k'+j<i*k'+off+ys.length):=by
        rintro⟨b1,b2⟩;rcases Nat.lt_or_gt_of_ne hii with h|h
        ·have:(i'+1)*k'≤i*k':=arf k' h;rw[atx]at this;omega
        have:(i+1)*k'≤i' * k':=arf k' h;rw[atx]at this;omega
       rw[if_neg hno,if_neg (fun h=>hii h.1)];exact q4 i' j hi' hj')
      (fun i' hi' j hj'=>by
       have hi2:i' < es.length:=by simpa using hi'
       by_cases hii:i'=i
       ·subst hii;have e0:∀L,cellsOf (.agg L)=L:=fun _=>rfl;simp only[auJ,e0]at hj' ⊢;rw[hnl]at hj';have hold:∀(h:j<(cellsOf x0).length),R M w c (cellsOf x0)[j] (F i' j):=fun h=>by
         have:=q5 i' hi j (by rw[hxe];exact h);simp only[hxe]at this;exact this
        by_cases h1:j<off
        ·rw[if_neg (by omega),amd (by simp;omega),amd (by simp;omega),atK];exact hold (by omega)
        by_cases h2:j<off+ys.length
        ·rw[if_pos ⟨trivial,by omega,h2⟩,amd (by simp;omega),arK (by simp;omega)];have e1:j-((cellsOf x0).take off).length=j-off:=by rw[al4,atw (by omega)]
         simp only[e1];have hy1:=hall1 _ (agL (show j-off<ys.length by omega));have:=a3 (j-off) (by omega) 0 (by rw[oN hy1.2];simp);simpa [oN hy1.2] using this
        rw[if_neg (by omega),arK (by simp;omega)];simp only[atM];have e1:off+ys.length+(j-((cellsOf x0).take off++ys).length)=j:=by simp;omega
        simp only[e1];exact hold (by omega)
       have e1:(es.set i (.agg ((cellsOf x0).take off++ys++(cellsOf x0).drop (off+ys.length))))[i']=es[i']:=by rw[auv (fun h=>hii h.symm)]
       simp only[e1]at hj' ⊢;rw[if_neg (fun h=>hii h.1)];exact q5 i' hi2 j hj')
     exact⟨w',FM hT hk (r1 w) hL (r3 w rfl) (fun b' hb'=>by cases hb';exact hr) (fun h=>by cases h),hset.1,hset.2⟩
    cases h
   cases h
  cases h
 ·rename_i id ep off n;split at h
  ·rename_i k' e' es ho;split at h
   ·rename_i hc;obtain⟨rfl,rfl,hle,hfit,hall⟩:=hc;cases h;obtain⟨o1,_⟩:=hs.obj id _ ho;have hall':∀y∈ys,aw y=k':=fun y hy=>by simpa using afz.1 hall y hy
    obtain⟨L,hL,r1,A,hA,r3⟩:=VO (P:=P) hs hy hrd hle o1 hall';rcases sl_inv hs hx ho with⟨rfl,a,cap,rfl⟩|⟨b,cap,hb,rfl⟩
    ·have hy0:ys=[]:=ahc (by omega);subst hy0;have e1:es.take off++[]++es.drop (off+([]:List aa).length)=es:=by simp
     have e2:σ.set id (.arr k' e' es)=σ:=by
      apply aup;intro j;rw[atk];split
      ·rename_i hj;subst hj;split
       ·exact ho.symm
       rename_i hlt;rw[aud (by omega)]
      rfl
     rw[e1,e2];have hA0:A=#[]:=by have:=hA.1;simp at this;exact this
     subst hA0;exact⟨w,FM hT hk (r1 w) hL (r3 w rfl) (fun b' hb'=>by simp[storeCells]) (fun _=>rfl),hs,.refl c w⟩
    obtain⟨w',h1,h2,h3⟩:=hs.lay (P:=P) (off:=off) ho hb hA hall' (by omega);exact⟨w',FM hT hk (r1 w) hL (r3 w rfl) (fun b' hb'=>by cases hb';exact h1) (fun h=>by cases h),h2,h3⟩
   cases h
  cases h
 cases h
end Go.AM
namespace Go.AM
section
variable (M:bw) (P:Program) (rs:Tmp→Option bp)
def Ge(o:Op)(ao:F4):Bool:=
 match o,ao with
 |.move x,.mov x'=>jo M rs x x'
 |.assign x,.mov x'=>jo M rs x x'
 |.assign (.const (.slice none 0 0)),.mknil k=>k != 0
 |.pick c a b,.pick c' a' b'=>jo M rs c c'&&jo M rs a a'&&jo M rs b b'
 |.alloc T,.box k (.val z)=>Ck P T k&&pU M P T z
 |.box T x,.box k x'=>Ck P T k&&jo M rs x x'
 |.build T parts,.build zero parts'=>pU M P T (.agg zero)&&(match P.underlying T with
   |some (.struct fs)=>(match fs.toList.mapM (fun f=>(P.info? f.type).map fun i=>(f.offset,i.size)) with
    |some places=>rr M rs (places.toArray[·]?) parts.toList parts'
    |none=>false)
   |some (.array _ e)=>(match P.info? e with
    |some ie=>rr M rs (fun i=>some (i*ie.size,ie.size)) parts.toList parts'
    |none=>false)
   |_=>false)
 |.buildSlice T len parts,.mkl k xs=>(match kl P T with
   |some e=>Ck P e k&&qH P e k&&decide (len*k≤2^24)&&len != 0&&((parts.toList.map (·.1))==List.range len)&&vS M rs (parts.toList.map (·.2)) xs
   |none=>false)
 |.buildSlice T 0 parts,.mknil k=>(match kl P T with
   |some e=>Ck P e k&&parts.size==0
   |none=>false)
 |.makeSlice T l n,.make k zero l' n'=>(match kl P T with
   |some e=>Ck P e k&&qH P e k&&pU M P e zero&&jo M rs l l'&&jo M rs n n'
   |none=>false)
 |.makeMap _ none,.mkmap=>true
 |.lookup T m k ok,.look zero ok' m' k'=>(match P.underlying T with
   |some (.map kt et)=>yL P kt&&pU M P et zero&&ok==ok'&&jo M rs m m'&&jo M rs k k'
   |_=>false)
 |.mapUpdate T m k v,.mput m' k' v'=>(match P.underlying T with
   |some (.map kt _)=>yL P kt&&jo M rs m m'&&jo M rs k k'&&jo M rs v v'
   |_=>false)
 |.insert T m k v,.mput m' k' v'=>(match P.underlying T with
   |some (.map kt _)=>yL P kt&&jo M rs m m'&&jo M rs k k'&&jo M rs v v'
   |_=>false)
 |.load T x,.load a s x'=>p9 P T a s&&jo M rs x x'
 |.store T x v,.store s x' v'=>Ck P T s&&jo M rs x x'&&jo M rs v v'
 |.fieldAddr S x i,.fld off x'=>(match Fz P S i with
   |some f=>f.offset==off&&(match (P.info? f.type).map (·.size) with|some n=>n != 0|none=>false)&&jo M rs x x'
   |none=>false)
 |.field S x i,.fldv a s off x'=>(match Fz P S i with
   |some f=>f.offset==off&&p9 P f.type a s&&jo M rs x x'
   |none=>false)
 |.indexAddr T x i,.idxs k x' i'=>(match kl P T with
   |some e=>Ck P e k&&jo M rs x x'&&jo M rs i i'
   |none=>false)
 |.indexAddr T x i,.idxa m s x' i'=>(match P.underlying T with
   |some (.array m' e)=>m==m'&&(P.info? e).map (·.size)==some s&&jo M rs x x'&&jo M rs i i'
   |_=>false)
 |.index T x i,.idxv a m s x' i'=>(match P.underlying T with
   |some (.array m' e)=>m==m'&&p9 P e a s&&jo M rs x x'&&jo M rs i i'
   |_=>false)
 |.index T x i,.idxt x' i'=>Qr P T&&jo M rs x x'&&jo M rs i i'
 |.binOp op T x y _,.eqb n x' y'=>(op==if n then .neq else .eql)&&(match P.underlying T with|some .bool=>true|_=>false)&&jo M rs x x'&&jo M rs y y'
 |.binOp op T x y _,.eqa n ks x' y'=>(op==if n then .neq else .eql)&&ake P T ks&&jo M rs x x'&&jo M rs y y'
 |.binOp op _ x y _,.bin op' x' y'=>op==op'&&jo M rs x x'&&jo M rs y y'
 |.unOp op _ x,.una op' x'=>op==op'&&jo M rs x x'
 |.convert S T x,.conv k x'=>yL P S&&ZW P T k&&jo M rs x x'
 |.slice T x lo hi none,.slice k x' lo' hi'=>(match kl P T with
   |some e=>Ck P e k&&jo M rs x x'&&Dr M rs lo lo'&&Dr M rs hi hi'
   |none=>false)
 |.slice T x lo hi none,.slicet x' lo' hi'=>Qr P T&&jo M rs x x'&&Dr M rs lo lo'&&Dr M rs hi hi'
 |.slice T x none none none,.aslice n x'=>(match P.underlying T with
   |some (.array m e)=>m==n&&n != 0&&(P.info? e).map (·.size)==some 1&&jo M rs x x'
   |_=>false)
 |.extract x i,.ext i' x'=>i==i'&&jo M rs x x'
 |.makeFunc (.func f) first cap,.mkfn n first' cap'=>M.fm n==f&&vS M rs first.toList first'&&vS M rs cap.toList cap'
 |.nilCheck x,.nilck x'=>jo M rs x x'
 |.call c,.len x'=>(match c.callee,c.args.toList,c.argTypes.toList with
   |.builtin .len,[x],[T]=>(kl P T).isSome&&jo M rs x x'
   |_,_,_=>false)
 |.call c,.lent x'=>(match c.callee,c.args.toList,c.argTypes.toList with
   |.builtin .len,[x],[T]=>Qr P T&&jo M rs x x'
   |_,_,_=>false)
 |.call c,.app k x' y'=>(match c.callee,c.args.toList,c.argTypes.toList with
   |.builtin .append,[x,y],[T,U]=>(match kl P T with
    |some e=>Ck P e k&&qH P e k&&ac7 P U&&jo M rs x x'&&jo M rs y y'
    |none=>false)
   |_,_,_=>false)
 |.call c,.cap x'=>(match c.callee,c.args.toList,c.argTypes.toList with
   |.builtin .cap,[x],[T]=>(kl P T).isSome&&jo M rs x x'
   |_,_,_=>false)
 |.call c,.clr zero x'=>(match c.callee,c.args.toList,c.argTypes.toList with
   |.builtin .clear,[x],[T]=>(match kl P T with
    |some e=>pU M P e zero&&jo M rs x x'
    |none=>false)
   |_,_,_=>false)
 |.call c,.copy k x' y'=>(match c.callee,c.args.toList,c.argTypes.toList with
   |.builtin .copy,[x,y],[T,_]=>(match kl P T with
    |some e=>Ck P e k&&jo M rs x x'&&jo M rs y y'
    |none=>false)
   |_,_,_=>false)
 |.call c,.mins x' xs'=>(match c.callee,c.args.toList with
   |.builtin .min,x::xs=>jo M rs x x'&&vS M rs xs xs'
   |_,_=>false)
 |.call c,.maxs x' xs'=>(match c.callee,c.args.toList with
   |.builtin .max,x::xs=>jo M rs x x'&&vS M rs xs xs'
   |_,_=>false)
 |.call c,.call n args _=>(match c.callee with
   |.value (.func f)=>M.fm n==f&&vS M rs c.args.toList args
   |_=>false)
 |.call c,.callv x' args=>(match c.callee with
   |.value x=>jo M rs x x'&&vS M rs c.args.toList args
   |_=>false)
 |.binOp op T x (.const (.slice none 0 0)) _,.nils n x'=>(op==if n then .neq else .eql)&&(kl P T).isSome&&jo M rs x x'
 |.buildSlice T 0 parts,.mov (.val .yz)=>(match kl P T with
   |some e=>(P.info? e).isSome&&parts.size==0
   |none=>false)
 |.call c,.appz k zero x' n'=>(match c.callee,c.args.toList,c.argTypes.toList with
   |.builtin .append,[x,n],[T,U]=>(match kl P T with
    |some e=>Ck P e k&&qH P e k&&pU M P e zero&&yL P U&&jo M rs x x'&&jo M rs n n'
    |none=>false)
   |_,_,_=>false)
 |_,.bad=>true
 |_,_=>false
end
variable {M:bw} {w:World} {P:Program} {rs:Tmp→Option bp}
theorem JT{c:bv}{env ls:List aa}{a:Act}(ht:iL M w c env ls rs a.tmps)(hg:fT M w c){place:Nat→Option (Nat×Nat)}:∀{ps:List (Nat×Operand)} {qs:List (Nat×Nat×bp)},rr M rs place ps qs=true →
  ps.length=qs.length∧∀i (h:i<ps.length) (h':i<qs.length),place ps[i].1=some (qs[i].1,qs[i].2.1)∧R M w c (qs[i].2.2.eval env ls) (a.eval ps[i].2)
 |[],[],_=>⟨rfl,fun i h=>absurd h (by simp)⟩
 |[],_::_,h=>by simp[rr]at h
 |_::_,[],h=>by simp[rr]at h
 |(i,x)::ps,(off,s,x')::qs,h=>by
  simp only[rr,acz,afE]at h;obtain⟨⟨h1,h2⟩,h3⟩:=h;obtain⟨h4,h5⟩:=JT ht hg h3;refine⟨by simp[h4],fun j hj hj'=>?_⟩;cases j with
  |zero=>exact⟨h1,Jt ht hg h2⟩
  |succ j=>simpa using h5 j (by simpa using hj) (by simpa using hj')
theorem EE{c:bv}{env ls:List aa}{a:Act}(ht:iL M w c env ls rs a.tmps)(hg:fT M w c){xs:List Operand}{xs':List bp}(h:vS M rs xs xs'=true) :
  xs.length=xs'.length∧∀i (h:i<xs'.length),∃x,(xs.map a.eval)[i]?=some x∧R M w c (xs'[i].eval env ls) x:=by
 simp only[vS,acz,afE]at h;exact⟨h.1,ZM ht hg h.1 h.2⟩
theorem Vc{c:bv}{env ls:List aa}{a:Act}(ht:iL M w c env ls rs a.tmps)(hg:fT M w c){x:Option Operand}{x':Option bp}(h:Dr M rs x x'=true){d n:Nat}(hn:ct env ls d x'=some n) :
  (x.map a.eval=none∧n=d)∨∃k,x.map a.eval=some (.int k (n:Int)):=by
 cases x with
 |none=>cases x' with
  |none=>simp only[ct,afV]at hn;exact .inl ⟨rfl,hn.symm⟩
  |some _=>simp[Dr]at h
 |some x=>cases x' with
  |none=>simp[Dr]at h
  |some x'=>
   simp only[Dr]at h;obtain⟨k,hk⟩:=rj (Jt ht hg h) hn;exact .inr ⟨k,by rw[atH,hk]⟩
theorem fC{ρ:Operand→Value}{c:Call}{ty:TypeId}{b:Builtin}(h:c.callee=.builtin b):(do let d ←Go.resolve ρ c ty;invoke d.target d.args:Sem Next)=builtin b c.argTypes ty (c.args.map fun|.const _=>true|_=>false) (c.args.map ρ):=by
 unfold Go.resolve;rw[h];rfl
theorem W4{ρ:Operand→Value}{xs:Array Operand}{x:Operand}(h:xs.toList=[x]):xs.map ρ=#[ρ x]:=by
 cases xs with|mk l=>simp at h;subst h;simp
theorem abr{ρ:Operand→Value}{xs:Array Operand}{x y:Operand}(h:xs.toList=[x,y]):xs.map ρ=#[ρ x,ρ y]:=by
 cases xs with|mk l=>simp at h;subst h;simp
theorem zl{α:Type}{xs:Array α}{l:List α}(h:xs.toList=l):xs=l.toArray:=by
 cases xs with|mk l=>simp at h;subst h;rfl
theorem aqJ{c:bv}{x y v:aa}{cx cy:Value}(hx:R M w c x cx)(hy:R M w c y cy){op:BinOp}(h:bin op x y=some v){T:TypeId}(ox oy:Operand) :
  ∃cv,(do eqGuard op T ox oy cx cy;binOp op T cx cy:Sem Value).run P w=.ok cv w∧R M w c v cv:=by
 unfold bin at h;split at h
 ·rename_i k a k' b;cases hx;cases hy;simp only[Sem.run_bind,qF op T ox oy (.inl ⟨k,a,rfl⟩),Result.andThen_ok];split at h
  ·exact JJ h
  ·exact JJ h
  rename_i n1 n2;split at h
  ·rename_i hk;subst hk;exact RN ⟨fun e=>n1 e,fun e=>n2 e⟩ h
  cases h
 ·rename_i a b;cases hx with|str h1=>cases hy with|str h2=>
  simp only[Sem.run_bind,qF op T ox oy (.inr (.inl ⟨_,rfl⟩)),Result.andThen_ok];exact acZ (by rw[h1,h2];exact h)
 cases h
theorem ns.ex{c:bv}{σ:ah}{s:Sem Value}{v:aa}(hs:cO M w c σ)(h:∃cv,s.run P w=.ok cv w∧R M w c v cv):ns M P c w (do pure (.value (←s))) v σ:=
 let ⟨_,h1,h2⟩:=h
 .quiet hs h1 h2
theorem ns.unit{c:bv}{σ':ah}{s:Sem Unit}(h:∃w',s.run P w=.ok () w'∧cO M w' c σ'∧fK c w c w'):ns M P c w (do s;pure .skip) .any σ':=by
 obtain⟨w',h1,h2,h3⟩:=h;exact⟨.skip,w',c,undef,by simp[h1],.inr ⟨rfl,rfl⟩,h2,h3,.any⟩
theorem ns.any{c:bv}{σ':ah}{s:Sem Value}(h:∃cv w',s.run P w=.ok cv w'∧cO M w' c σ'∧fK c w c w'):ns M P c w (do pure (.value (←s))) .any σ':=by
 obtain⟨cv,w',h1,h2,h3⟩:=h;exact .of h1 h2 h3 .any
theorem pi{T:TypeId}(h:yL P T=true):∃q,P.underlying T=some (.int q):=by
 unfold yL at h;split at h
 ·exact⟨_,by assumption⟩
 cases h
theorem XO{T:TypeId}{k:IntKind}(h:ZW P T k=true):P.underlying T=some (.int k):=by
 unfold ZW at h;split at h
 ·rename_i j hj;have:j=k:=by simpa using h
  rw[←this];exact hj
 cases h
theorem Di{T:TypeId}(h:Qr P T=true):P.underlying T=some .string:=by
 unfold Qr at h;split at h
 ·assumption
 cases h
theorem aQ{α β:Type}{f:α→β}{o:Option α}{b:β}(h:o.map f=some b):∃a,o=some a∧f a=b:=by
 cases o with
 |none=>cases h
 |some a=>exact⟨a,rfl,as7 h⟩
theorem aS{α β:Type}{f:α→Option β}{o:Option α}{b:β}(h:o.bind f=some b):∃a,o=some a∧f a=some b:=by
 cases o with
 |none=>cases h
 |some a=>exact⟨a,rfl,h⟩
theorem aqX{c:bv}{i:Nat}{x v:aa}{cx:Value}(hx:R M w c x cx)(h:abZ i x=some v):∃cv,(Instr.extract cx i).run P w=.ok cv w∧R M w c v cv:=by
 unfold abZ at h;split at h
 ·rename_i vs;cases hx with|@tup _ _ cvs f h1 h2 h3=>
  obtain⟨hi,rfl⟩:=aaN.1 h;refine⟨f i,?_,h3 i hi⟩;simp[Instr.extract,h2 i hi]
 cases h
theorem D6{S:TypeId}{i:Nat}{f:Field}(h:Fz P S i=some f):∃fs,P.underlying S=some (.struct fs)∧fs[i]?=some f:=by
 unfold Fz at h;split at h
 ·exact⟨_,by assumption,h⟩
 cases h
theorem US{c:bv}{a:Bool}{s off:Nat}{x v:aa}{cx:Value}(hx:R M w c x cx)(h:HO a s off x=some v){T:TypeId}(ht:p9 P T a s=true):∃A cv,cx=.agg A∧(part T A off).run P w=.ok cv w∧R M w c v cv:=by
 unfold HO at h;split at h
 ·rename_i hc;exact alD hx hc.1 hc.2 ht h
 cases h
theorem CO{c:bv}{env ls:List aa}{a:Act}(ht:iL M w c env ls rs a.tmps)(hg:fT M w c){xs:Array Operand}{xs':List bp}(h:vS M rs xs.toList xs'=true) :
  (xs.map a.eval).size=xs'.length∧∀i (hi:i<(xs'.map (·.eval env ls)).length),∃x,(xs.map a.eval)[i]?=some x∧R M w c (xs'.map (·.eval env ls))[i] x:=by
 obtain⟨h1,h2⟩:=EE ht hg h;refine⟨by simpa using h1,fun i hi=>?_⟩;obtain⟨x,h3,h4⟩:=h2 i (by simpa using hi);exact⟨x,by simpa using h3,by simpa using h4⟩
theorem aeV{c:bv}{σ σ':ah}{env ls:List aa}{a:Act}{C:ec}{o:Oper}{ao:F4}{v:aa}(hs:cO M w c σ)(ht:iL M w c env ls rs a.tmps)(hg:fT M w c)
  (hok:Ge M P rs o.op ao=true) (hst:aN C env ls σ ao=some (v,σ')) (hn1:∀f x m,ao≠.call f x m) (hn2:∀f x,ao≠.callv f x):ns M P c w (execOp a.eval o) v σ':=by
 have X:∀{x:Operand} {x':bp},jo M rs x x'=true→R M w c (x'.eval env ls) (a.eval x):=fun h=>Jt ht hg h;unfold Ge at hok;unfold execOp;split at hok<;>rename_i hop<;>(try simp only[hop])
 case h_1=>cases hst;exact .now hs (X hok)
 case h_2=>cases hst;exact .now hs (X hok)
 case h_3 k=>
  cases hst;obtain⟨c',h1,h2,h3⟩:=Fh hs (show k≠0 by simpa using hok) none;exact⟨_,w,c',_,rfl,.inl rfl,h1,h2,h3⟩
 case h_4 x y z x' y' z'=>
  simp only[acz]at hok;obtain⟨⟨h1,h2⟩,h3⟩:=hok;simp only[aN]at hst;obtain⟨r,hr,he⟩:=aQ hst;cases he;unfold Xj at hr;have hc:=X h1;split at hr
  ·rename_i t ht';rw[ht']at hc;cases hr;generalize a.eval x=cx at hc;cases hc;refine⟨.value (if t then a.eval y else a.eval z),w,c,_,by simp[asBool],.inl rfl,hs,.refl c w,?_⟩;cases t
   ·exact X h3
   exact X h2
  cases hr
 case h_5 T k z=>
  simp only[acz]at hok;obtain⟨h1,h2⟩:=hok;obtain⟨h3,h4⟩:=iy h1;obtain⟨i,v0,i1,i2,i3,i4⟩:=pG h2;have hst':(if aw z=k then some (aa.ptr σ.length 0 0 0,σ++[.arr k 0 [z]]) else none)=some (v,σ'):=hst;split at hst'
  ·rename_i hk;cases hst';obtain⟨nx,w',c',cv,b1,b2,b3,b4,b5⟩:=ahs (P:=P) hs (rt (M:=M) (w:=w) (c:=c) i4) (T:=T) hk h4;refine⟨nx,w',c',cv,?_,b2,b3,b4,b5⟩;rw[←b1];simp[Instr.alloc,Instr.box,i3]
  cases hst'
 case h_6 T x k x'=>
  simp only[acz]at hok;obtain⟨h1,h2⟩:=hok;obtain⟨h3,h4⟩:=iy h1;simp only[aN]at hst;split at hst
  ·rename_i hk;cases hst;exact ahs hs (X h2) hk h4
  cases hst
 case h_7 T parts zero parts'=>
  simp only[acz]at hok;obtain⟨h1,h2⟩:=hok;obtain⟨i,v0,i1,i2,i3,i4⟩:=pG h1;simp only[aN]at hst;obtain⟨cs,hf,he⟩:=aQ hst;cases he;have hz:R M w c (.agg zero) v0:=rt i4;obtain⟨A,rfl⟩:∃A,v0=.agg A:=by cases hz;exact⟨_,rfl⟩
  have hzr:=hz.rcells;have key:∀place,rr M rs place parts.toList parts'=true→∃B,Instr.fill place A ((parts.map fun (i,x)=>(i,a.eval x)).toList)=some B∧nD M w c cs B:=fun place hp=>by
   obtain⟨p1,p2⟩:=JT ht hg hp;refine abS place _ (parts'.map fun p=>(p.1,p.2.1,p.2.2.eval env ls)) zero cs A hzr (by simp;simpa using p1) (fun i hi hi'=>?_) hf;have:=p2 i (by simpa using hi) (by simpa using hi');simpa using this
  have hbuilt:∃B,P.built T ((parts.map fun (i,x)=>(i,a.eval x)).toList)=some B∧nD M w c cs B:=by
   split at h2
   ·rename_i fs hfs;split at h2
    ·rename_i places hpl;obtain⟨B,b1,b2⟩:=key _ h2;exact⟨B,by unfold Program.built;rw[i1,hfs];simp only[i2,hpl];exact b1,b2⟩
    cases h2
   ·rename_i n e hfs;split at h2
    ·rename_i ie hie;obtain⟨B,b1,b2⟩:=key _ h2;exact⟨B,by unfold Program.built;rw[i1,hfs];simp only[i2,hie];exact b1,b2⟩
    cases h2
   cases h2
  obtain⟨B,b1,b2⟩:=hbuilt;exact .quiet hs (run_build w T _ B b1) b2.agg
 case h_8 T len parts k xs=>
  split at hok
  ·rename_i e he;simp only[acz,afE,atU,ad7]at hok;obtain⟨⟨⟨⟨⟨h1,h2⟩,h3⟩,h4⟩,h5⟩,h6⟩:=hok;obtain⟨s1,s2⟩:=iy h1;simp only[aN]at hst;split at hst
   ·rename_i hall;cases hst;obtain⟨p1,p2⟩:=EE ht hg h6;have hlen:parts.toList.length=len:=by rw[←List.length_map (f:=(·.1)),h5,auL]
    refine M8 (cvs:=(parts.toList.map (·.2)).map a.eval) hs (ey he) s1 s2 h2 h3 ?_ ?_ ?_ ?_ h4 ?_
    ·rw[ajk,←p1,ajk,hlen]
    ·rw[ajk,ajk,hlen]
    ·intro i hi hi';obtain⟨x,x1,x2⟩:=p2 i (by simpa using hi);rw[ad3 hi']at x1;cases x1;simpa using x2
    ·intro v hv;simpa using afz.1 hall v hv
    rw[←h5];simp[List.zip_map',auK]
   cases hst
  cases hok
 case h_9 T parts k=>
  split at hok
  ·rename_i e he;simp only[acz,afE]at hok;obtain⟨h1,h2⟩:=hok;obtain⟨s1,s2⟩:=iy h1;cases hst;have hp:parts=#[]:=aur h2;subst hp;obtain⟨h3,h4⟩:=hs.addStill (.cells #[] e (0,0));obtain⟨c',b1,b2,b3⟩:=Fh h3 s2 (some ⟨w.heap.size,0,none⟩);refine⟨.value (.slice (some ⟨w.heap.size,0,none⟩) 0 0),iH w (.cells #[] e (0,0)),c',_,?_,.inl rfl,b1,h4.trans b2,b3⟩;simp[Instr.buildSlice,aK (ey he),dJ s1,newRow,Instr.fill,Array.range_zero'];rfl
  cases hok
 case h_10 T l n k zero l' n'=>
  split at hok
  ·rename_i e he;simp only[acz]at hok;obtain⟨⟨⟨⟨h1,h2⟩,h3⟩,h4⟩,h5⟩:=hok;obtain⟨s1,s2⟩:=iy h1;simp only[aN]at hst;obtain⟨m,m1,hst⟩:=aS hst;obtain⟨d,d1,hst⟩:=aS hst;split at hst
   ·rename_i hc;obtain⟨rfl,hk,hm⟩:=hc;cases hst;obtain⟨k1,e1⟩:=rj (X h4) m1;obtain⟨k2,e2⟩:=rj (X h5) d1;rw[e1,e2];exact alb hs (ey he) s2 h2 h3 hk hm s1
   cases hst
  cases hok
 case h_11 T=>cases hst;exact age hs T
 case h_12 T m k ok zero ok' m' k'=>
  split at hok
  ·rename_i kt et hT;simp only[acz,afE]at hok;obtain⟨⟨⟨⟨h1,h2⟩,rfl⟩,h4⟩,h5⟩:=hok;obtain⟨q,hq⟩:=pi h1;simp only[aN]at hst;split at hst
   ·rename_i hk;obtain⟨es,e1,hst⟩:=aS hst;obtain⟨r,r1,he⟩:=aQ hst;cases he;exact .ex hs (akN hs (X h4) (X h5) hk e1 r1 hT hq h2 ok)
   cases hst
  cases hok
 case h_13 T m k v m' k' v'=>
  split at hok
  ·rename_i kt et hT;simp only[acz]at hok;obtain⟨⟨⟨h1,h2⟩,h3⟩,h4⟩:=hok;obtain⟨q,hq⟩:=pi h1;simp only[aN]at hst;obtain⟨σ1,r1,he⟩:=aQ hst;cases he;exact .unit (acu hs (X h2) (X h3) (X h4) r1 hT hq)
  cases hok
 case h_14 T m k v m' k' v'=>
  split at hok
  ·rename_i kt et hT;simp only[acz]at hok;obtain⟨⟨⟨h1,h2⟩,h3⟩,h4⟩:=hok;obtain⟨q,hq⟩:=pi h1;simp only[aN]at hst;obtain⟨σ1,r1,he⟩:=aQ hst;cases he;exact .unit (acu hs (X h2) (X h3) (X h4) r1 hT hq)
  cases hok
 case h_15 T x b s x'=>
  simp only[acz]at hok;simp only[aN]at hst;obtain⟨r,hr,he⟩:=aQ hst;cases he;exact .ex hs (aaz hs (X hok.2) hok.1 hr)
 case h_16 T x y s x' y'=>
  simp only[acz]at hok;obtain⟨⟨h1,h2⟩,h3⟩:=hok;obtain⟨s1,s2⟩:=iy h1;simp only[aN]at hst;obtain⟨r,hr,he⟩:=aQ hst;cases he;exact .unit (ae0 hs (X h2) (X h3) s1 s2 hr)
 case h_17 S x i off x'=>
  split at hok
  ·rename_i f hf;simp only[acz,afE]at hok;obtain⟨⟨h1,h2⟩,h3⟩:=hok;obtain⟨fs,f1,f2⟩:=D6 hf;split at h2
   ·rename_i n hn;simp only[aN]at hst;obtain⟨r,hr,he⟩:=aQ hst;cases he;exact .ex hs (am2 hs (X h3) f1 f2 h1 hn (by simpa using h2) hr)
   cases h2
  cases hok
 case h_18 S x i b s off x'=>
  split at hok
  ·rename_i f hf;simp only[acz,afE]at hok;obtain⟨⟨h1,h2⟩,h3⟩:=hok;obtain⟨fs,f1,f2⟩:=D6 hf;simp only[aN]at hst;obtain⟨r,hr,he⟩:=aQ hst;cases he;obtain⟨A,cv,a1,a2,a3⟩:=US (P:=P) (X h3) hr h2;refine .quiet hs ?_ a3;subst h1;simp[Instr.field,aK f1,f2,a1,asAgg,a2]
  cases hok
 case h_19 T x i k x' i'=>
  split at hok
  ·rename_i e he;simp only[acz]at hok;obtain⟨⟨h1,h2⟩,h3⟩:=hok;obtain⟨s1,s2⟩:=iy h1;simp only[aN]at hst;obtain⟨n,n1,hst⟩:=aS hst;obtain⟨r,hr,he'⟩:=aQ hst;cases he';exact .ex hs (akl hs (X h2) (rj (X h3) n1) (ey he) s1 s2 hr)
  cases hok
 case h_20 T x i m s x' i'=>
  split at hok
  ·rename_i m' e he;simp only[acz,afE]at hok;obtain⟨⟨⟨rfl,h2⟩,h3⟩,h4⟩:=hok;simp only[aN]at hst;obtain⟨n,n1,hst⟩:=aS hst;split at hst
   ·rename_i hn;obtain⟨r,hr,he'⟩:=aQ hst;cases he';exact .ex hs (akU hs (X h3) (rj (X h4) n1) he h2 hn hr)
   cases hst
  cases hok
 case h_21 T x i b m s x' i'=>
  split at hok
  ·rename_i m' e he;simp only[acz,afE]at hok;obtain⟨⟨⟨rfl,h2⟩,h3⟩,h4⟩:=hok;simp only[aN]at hst;obtain⟨n,n1,hst⟩:=aS hst;split at hst
   ·rename_i hn;obtain⟨r,hr,he'⟩:=aQ hst;cases he';obtain⟨A,cv,a1,a2,a3⟩:=US (P:=P) (X h3) hr h2;obtain⟨k,hk⟩:=rj (X h4) n1;refine .quiet hs ?_ a3;simp[Instr.index,hk,asIntOf,aK he,a1,hn,dJ (sd h2),a2]
   cases hst
  cases hok
 case h_22 T x i x' i'=>
  simp only[acz]at hok;obtain⟨⟨h1,h2⟩,h3⟩:=hok;simp only[aN]at hst;obtain⟨n,n1,hst⟩:=aS hst;obtain⟨r,hr,he'⟩:=aQ hst;cases he';exact .ex hs (alm (X h2) (rj (X h3) n1) hr (Di h1))
 case h_23 op T x y _ n x' y'=>
  simp only[acz,afE]at hok;obtain⟨⟨⟨h1,h2⟩,h3⟩,h4⟩:=hok;simp only[aN]at hst;obtain⟨r,hr,he'⟩:=aQ hst;cases he';split at h2
  ·rename_i hT;exact .ex hs (amo (X h3) (X h4) hr hT h1 x y)
  cases h2
 case h_24 op T x y _ n ks x' y'=>
  simp only[acz,afE]at hok;obtain⟨⟨⟨h1,h2⟩,h3⟩,h4⟩:=hok;simp only[aN]at hst;obtain⟨r,hr,he'⟩:=aQ hst;cases he';exact .ex hs (anx (X h3) (X h4) hr h2 h1 x y)
 case h_25 op T x y _ op' x' y'=>
  simp only[acz,afE]at hok;obtain⟨⟨rfl,h2⟩,h3⟩:=hok;simp only[aN]at hst;obtain⟨r,hr,he'⟩:=aQ hst;cases he';exact .ex hs (aqJ (X h2) (X h3) hr x y)
 case h_26 op _ x op' x'=>
  simp only[acz,afE]at hok;obtain⟨rfl,h2⟩:=hok;simp only[aN]at hst;obtain⟨r,hr,he'⟩:=aQ hst;cases he';exact .ex hs (afh (X h2) hr)
 case h_27 S T x k x'=>
  simp only[acz]at hok;obtain⟨⟨h1,h2⟩,h3⟩:=hok;simp only[aN]at hst;obtain⟨r,hr,he'⟩:=aQ hst;cases he';have hx:=X h3;unfold Xc at hr;split at hr
  ·rename_i k' n hx';rw[hx']at hx;cases hr;obtain⟨q,hq⟩:=pi h1;generalize a.eval x=cx at hx;cases hx;exact .quiet hs (acJ (c:=c) hq (XO h2) ⟨q,rfl⟩) .int
  cases hr
 case h_28 T x lo hi k x' lo' hi'=>
  split at hok
  ·rename_i e he;simp only[acz]at hok;obtain⟨⟨⟨h1,h2⟩,h3⟩,h4⟩:=hok;simp only[aN]at hst;obtain⟨n,n1,hst⟩:=aS hst;obtain⟨l,l1,hst⟩:=aS hst;obtain⟨h,hh,hst⟩:=aS hst;obtain⟨r,hr,he'⟩:=aQ hst;cases he';exact .ex hs (aeW hs (X h2) n1 (Vc ht hg h3 l1) (Vc ht hg h4 hh) hr (ey he) (iy h1).1)
  cases hok
 case h_29 T x lo hi x' lo' hi'=>
  simp only[acz]at hok;obtain⟨⟨⟨h1,h2⟩,h3⟩,h4⟩:=hok;simp only[aN]at hst;obtain⟨n,n1,hst⟩:=aS hst;obtain⟨l,l1,hst⟩:=aS hst;obtain⟨h,hh,hst⟩:=aS hst;obtain⟨r,hr,he'⟩:=aQ hst;cases he';exact .ex hs (acC (X h2) n1 (Vc ht hg h3 l1) (Vc ht hg h4 hh) hr (Di h1))
 case h_30 T x n x'=>
  split at hok
  ·rename_i m e he;simp only[acz,afE,atU]at hok;obtain⟨⟨⟨rfl,h2⟩,h3⟩,h4⟩:=hok;simp only[aN]at hst;obtain⟨r,hr,he'⟩:=aQ hst;cases he';exact .ex hs (abK hs (X h4) hr he h3 h2)
  cases hok
 case h_31 x i i' x'=>
  simp only[acz,afE]at hok;obtain⟨rfl,h2⟩:=hok;simp only[aN]at hst;obtain⟨r,hr,he'⟩:=aQ hst;cases he';exact .ex hs (aqX (X h2) hr)
 case h_32 f first cap n first' cap'=>
  simp only[acz,afE]at hok;obtain⟨⟨h1,h2⟩,h3⟩:=hok;cases hst;obtain⟨a1,a2⟩:=CO ht hg h2;obtain⟨b1,b2⟩:=CO ht hg h3;refine .quiet hs rfl ?_;subst h1;refine .fn (fun i=>(first.map a.eval).getD i undef) (fun i=>(cap.map a.eval).getD i undef) (by rw[a1];simp) (by rw[b1];simp) (fun i hi=>?_) (fun i hi=>?_) (fun i hi=>?_) (fun i hi=>?_)
  ·obtain⟨x,x1,_⟩:=a2 i hi;simp only[ala,x1,ary]
  ·obtain⟨x,x1,_⟩:=b2 i hi;simp only[ala,x1,ary]
  ·obtain⟨x,x1,x2⟩:=a2 i hi;simp only[ala,x1,ary];exact x2
  obtain⟨x,x1,x2⟩:=b2 i hi;simp only[ala,x1,ary];exact x2
 case h_33 x x'=>
  simp only[aN]at hst;obtain⟨r,hr,he'⟩:=aQ hst;cases he';have hx:=X hok;unfold Mo at hr;split at hr
  ·rename_i id ep i o' hx';rw[hx']at hx;split at hr
   ·rename_i hf;cases hr;obtain⟨k,b,h1,h2,h3,h4⟩:=wJ hs hx hf;rw[h4]at hx ⊢;exact .now hs hx
   cases hr
  ·rename_i b y o' hx';rw[hx']at hx;cases hr;generalize a.eval x=cx at hx;have:∃ad,cx=.pointer (some ad):=by cases hx;exact⟨_,rfl⟩
   obtain⟨ad,rfl⟩:=this;exact .now hs hx
  ·rename_i f p q hx';rw[hx']at hx;cases hr;generalize a.eval x=cx at hx;have:∃fi fs cs,cx=.func (.func fi) fs cs:=by cases hx;exact⟨_,_,_,rfl⟩
   obtain⟨fi,fs,cs,rfl⟩:=this;exact .now hs hx
  cases hr
 case h_34 c' x'=>
  split at hok
  ·rename_i x T h1 h2 h3;simp only[acz]at hok;obtain⟨k1,k2⟩:=hok;obtain⟨e,he⟩:=atJ.1 k1;simp only[aN]at hst;obtain⟨r,hr,he'⟩:=aQ hst;cases he';rw[fC h1,W4 h2,zl h3];exact .ex hs ⟨_,amW hs (X k2) hr (ey he),.int⟩
  cases hok
 case h_35 c' x'=>
  split at hok
  ·rename_i x T h1 h2 h3;simp only[acz]at hok;obtain⟨k1,k2⟩:=hok;simp only[aN]at hst;obtain⟨r,hr,he'⟩:=aQ hst;cases he';rw[fC h1,W4 h2,zl h3];exact .ex hs ⟨_,ak8 (X k2) hr (Di k1),.int⟩
  cases hok
 case h_36 c' k x' y'=>
  split at hok
  ·rename_i x y T U h1 h2 h3;split at hok
   ·rename_i e he;simp only[acz]at hok;obtain⟨⟨⟨⟨k1,k2⟩,k3⟩,k4⟩,k5⟩:=hok;obtain⟨s1,s2⟩:=iy k1;simp only[aN]at hst;obtain⟨ys,y1,hst⟩:=aS hst;rw[fC h1,abr h2,zl h3];obtain⟨i,z,z1,z2,z3,z4,z5,_⟩:=qP k2;have hsz:i.size=k:=by rw[z1]at s1;simpa using s1
    have hU:∃d,P.underlying U=some d∧∀q,d≠.int q:=by
     unfold ac7 at k3;split at k3
     ·cases k3
     ·rename_i d hd hn;exact⟨d,hn,fun q e=>hd q e⟩
     cases k3
    obtain⟨d,d1,d2⟩:=hU;exact adl hs (X k4) (X k5) y1 hst ⟨⟨e,i,z,d,ey he,z1,hsz,z2,z3,z4,z5,d1,d2⟩,s2⟩
   cases hok
  cases hok
 case h_37 c' x'=>
  split at hok
  ·rename_i x T h1 h2 h3;simp only[acz]at hok;obtain⟨k1,k2⟩:=hok;obtain⟨e,he⟩:=atJ.1 k1;simp only[aN]at hst;obtain⟨r,hr,he'⟩:=aQ hst;cases he';rw[fC h1,W4 h2,zl h3];have hx:=X k2;unfold agC at hr;split at hr
   ·rename_i hx';rw[hx']at hx;cases hr;generalize a.eval x=cx at hx;cases hx;refine .ex hs ⟨_,?_,.int⟩;simp[Builtin.cap_,aK (ey he),goInt]
   cases hr
  cases hok
 case h_38 c' zero x'=>
  split at hok
  ·rename_i x T h1 h2 h3;split at hok
   ·rename_i e he;simp only[acz]at hok;obtain⟨k1,k2⟩:=hok;simp only[aN]at hst;obtain⟨r,hr,he'⟩:=aQ hst;cases he';rw[fC h1,W4 h2,zl h3];exact .any (apN hs (X k2) hr (ey he) k1)
   cases hok
  cases hok
 case h_39 c' k x' y'=>
  split at hok
  ·rename_i x y T U h1 h2 h3;split at hok
   ·rename_i e he;simp only[acz]at hok;obtain⟨⟨k1,k2⟩,k3⟩:=hok;simp only[aN]at hst;obtain⟨ys,y1,hst⟩:=aS hst;obtain⟨r,hr,he'⟩:=aQ hst;cases he';rw[fC h1,abr h2,zl h3];obtain⟨w',c1,c2,c3⟩:=ale hs (X k2) (X k3) y1 hr (ey he) (iy k1).1;exact .of c1 c2 c3 .int
   cases hok
  cases hok
 case h_40 c' x' xs'=>
  split at hok
  ·rename_i x xs h1 h2;simp only[acz]at hok;obtain⟨k1,k2⟩:=hok;simp only[aN]at hst;obtain⟨r,hr,he'⟩:=aQ hst;cases he';rw[fC h1];obtain⟨p1,p2⟩:=EE ht hg k2;have hargs:(c'.args.map a.eval).toList=a.eval x::xs.map a.eval:=by simp[h2]
   obtain⟨cv,r1,r2⟩:=Hu (P:=P) true _ (xs.map a.eval) _ _ _ (X k1) (by simpa using p1) (fun i hi hi'=>by
    obtain⟨y,y1,y2⟩:=p2 i (by simpa using hi);rw[ad3 hi']at y1;cases y1;simpa using y2) hr
   refine .ex hs ⟨cv,?_,r2⟩;unfold Builtin.min_;rw[hargs];exact r1
  cases hok
 case h_41 c' x' xs'=>
  split at hok
  ·rename_i x xs h1 h2;simp only[acz]at hok;obtain⟨k1,k2⟩:=hok;simp only[aN]at hst;obtain⟨r,hr,he'⟩:=aQ hst;cases he';rw[fC h1];obtain⟨p1,p2⟩:=EE ht hg k2;have hargs:(c'.args.map a.eval).toList=a.eval x::xs.map a.eval:=by simp[h2]
   obtain⟨cv,r1,r2⟩:=Hu (P:=P) false _ (xs.map a.eval) _ _ _ (X k1) (by simpa using p1) (fun i hi hi'=>by
    obtain⟨y,y1,y2⟩:=p2 i (by simpa using hi);rw[ad3 hi']at y1;cases y1;simpa using y2) hr
   refine .ex hs ⟨cv,?_,r2⟩;unfold Builtin.max_;rw[hargs];exact r1
  cases hok
 case h_42=>exact absurd rfl (hn1 _ _ _)
 case h_43=>exact absurd rfl (hn2 _ _)
 case h_44 op T x q n x'=>
  simp only[acz,afE]at hok;obtain⟨⟨h1,h2⟩,h3⟩:=hok;obtain⟨e,he⟩:=atJ.1 h2;simp only[aN]at hst;obtain⟨r,hr,he'⟩:=aQ hst;cases he';exact .ex hs (akq hs (X h3) hr (ey he) h1 _ _)
 case h_45 T parts=>
  split at hok
  ·rename_i e he;simp only[acz,afE]at hok;obtain⟨h1,h2⟩:=hok;obtain⟨i,hi⟩:=atJ.1 h1;have s1:(P.info? e).map (·.size)=some i.size:=by rw[hi];rfl
   cases hst;have hp:parts=#[]:=aur h2;subst hp;obtain⟨h3,h4⟩:=hs.addStill (.cells #[] e (0,0));refine⟨.value (.slice (some ⟨w.heap.size,0,none⟩) 0 0),iH w (.cells #[] e (0,0)),_,_,?_,.inl rfl,h3,h4,.yz⟩;simp[Instr.buildSlice,aK (ey he),dJ s1,newRow,Instr.fill,Array.range_zero'];rfl
  cases hok
 case h_46 c' k zero x' n'=>
  split at hok
  ·rename_i x n T U g1 g2 g3;split at hok
   ·rename_i e he;simp only[acz]at hok;obtain⟨⟨⟨⟨⟨k1,k2⟩,k3⟩,k4⟩,k5⟩,k6⟩:=hok;obtain⟨s1,s2⟩:=iy k1;obtain⟨i,z,z1,z2,z3,zb,zn,z4⟩:=qP k2;obtain⟨i',z',y1,y2,y3,y4⟩:=pG k3;rw[z1]at y1;cases y1;rw[z2]at y2;cases y2;have hsz:i.size=k:=by rw[z1]at s1;simpa using s1
    have hzR:R M w c zero z:=rt y4;simp only[aN]at hst;obtain⟨m,m1,hst⟩:=aS hst;split at hst
    ·rename_i hc;obtain⟨kn,hkn⟩:=rj (X k6) m1;rw[fC g1];obtain⟨g,hg,hgs,hgc⟩:=oo hzR (by omega);have hA:kw M w c k (List.replicate m zero) (Builtin.zeroCells z.cells m):=by
      refine⟨by simp[Builtin.zeroCells,z3],fun _ j=>g j,fun i j hi hj=>?_,fun i hi j hj=>?_⟩
      ·have hi':i<m:=by simpa using hi
       have hlt:=nE hi' hj;have e1:(i*k+j)%k=j:=by rw[aux,avq,avk hj]
       have e2:=hgc j (by omega);have e3:z.cells[j]! = g j:=by rw[getElem!_def,e2]
       refine⟨?_,hg.one j (by omega)⟩;simp[Builtin.zeroCells,z3,hlt,e1,e3]
      have e1:(List.replicate m zero)[i]=zero:=au8 ..;simp only[e1]at hj ⊢;exact hg.rel j hj
     have hap:=ado (P:=P) (w:=w) (T:=T) (U:=U) (ty:=o.type) (e:=e) (k:=k) (i:=i) (z:=z) ⟨ey he,z1,hsz,z2,z3,zb,zn,pi k4,s2⟩ (q:=kn) (m:=m) hc.2;have:=DF (P:=P) (T:=T) (U:=U) (ty:=o.type) (cy:=.int kn m) hs (X k5) s2 hst fun _=>⟨_,hA,by simpa using hap⟩;rw[abr g2,zl g3];have hkn':a.eval n=.int kn (m:Int):=hkn;rw[hkn'];exact this
    cases hst
   cases hok
  cases hok
 case h_47=>cases hst
 case h_48=>cases hok
end Go.AM
namespace Go.AM
variable {M:bw} {w:World} {P:Program} {rs:Tmp→Option bp}
theorem Gu{c:bv}{env ls:List aa}{a:Act}(ht:iL M w c env ls rs a.tmps)(hg:fT M w c){xs:Array Operand}{xs':List bp}(h:vS M rs xs.toList xs'=true) :
  fU M w c (xs'.map (·.eval env ls)) (xs.map a.eval):=by
 obtain⟨h1,h2⟩:=CO ht hg h;exact⟨by rw[h1];simp,h2⟩
theorem fU.append{c:bv}{xs ys:List aa}{A B:Array Value}(h:fU M w c xs A)(k:fU M w c ys B):fU M w c (xs++ys) (A++B):=by
 refine⟨by simp[h.1,k.1],fun i hi=>?_⟩;by_cases hl:i<xs.length
 ·obtain⟨x,h1,h2⟩:=h.2 i hl;refine⟨x,?_,by rw[amd hl];exact h2⟩;rw[atu (by rw[h.1];exact hl)];exact h1
 obtain⟨x,h1,h2⟩:=k.2 (i-xs.length) (by simp at hi;omega);refine⟨x,?_,by rw[arK (by omega)];exact h2⟩;rw[auD (by rw[h.1];omega),h.1];exact h1
theorem Gv{c:bv}{f:Nat}{first cap:List aa}{cx:Value}(h:R M w c (.fn f first cap) cx):∃fs cs,cx=.func (.func (M.fm f)) fs cs∧fU M w c first fs∧fU M w c cap cs:=by
 cases h with
 |fn g1 g2 h1 h2 h3 h4 h5 h6=>exact⟨_,_,rfl,⟨h1,fun i hi=>⟨g1 i,h3 i hi,h5 i hi⟩⟩,h2,fun i hi=>⟨g2 i,h4 i hi,h6 i hi⟩⟩
theorem aan{α β:Type}{f:α→β}{o:Option α}{b:β}(h:o.map f=some b):∃a,o=some a∧f a=b:=aQ h
theorem amT{F:Fence}{n:Nat}{c:bv}{σ σ':ah}{env ls:List aa}{a:Act}{C:ec}{o:Oper}{ao:F4}{v:aa}(hF:pZ F)(hC:gK M P C)(hR:gw M P C)
  (hs:cO M w c σ) (ht:iL M w c env ls rs a.tmps) (hg:fT M w c) (hok:Ge M P rs o.op ao=true) (hst:aN C env ls σ ao=some (v,σ'))
  {K:Act→World→Prop} {Q:Exit→Act→World→Prop} (hK:∀cv w' c',cO M w' c' σ'→fK c w c' w'→R M w' c' v cv→K (a.put o.dst cv) w'):o.wpIn F n P a w K Q:=by
 have hdef:∀c,o.op≠.defer c:=by
  intro d e;rw[e]at hok;cases ao<;>simp[Ge]at hok;cases hst
 by_cases h1:∃f x m,ao=.call f x m
 ·obtain⟨f,args,mat,rfl⟩:=h1;cases hop:o.op with
  |call d=>
   rw[hop]at hok;simp only[Ge]at hok;split at hok
   ·rename_i g hg';simp only[acz,afE]at hok;obtain⟨h2,h3⟩:=hok;simp only[aN]at hst;obtain⟨⟨v0,σ0⟩,r1,he⟩:=aan hst;have hinv:∀n,mH F n P (M.fm f) (d.args.map a.eval) w (dR M c w σ0 v0):=fun n=>(hC f _ σ v0 σ0 r1 F n w c _ hF hs hg (Gu ht hg h3)).1;refine mH.wp hF hinv ?_ hdef fun cv w' hp=>?_
    ·unfold execOp;rw[hop];simp only[Go.resolve,hg',Act.eval,h2];show callFunc g (#[]++d.args.map a.eval++#[])=_;simp
    obtain⟨c',p1,p2,p3⟩:=hp.mater mat;rw[he]at p1 p3;exact hK cv w' c' p1 p2 p3
   cases hok
  |_=>rw[hop]at hok;simp[Ge]at hok
 by_cases h2:∃f x,ao=.callv f x
 ·obtain⟨f,args,rfl⟩:=h2;cases hop:o.op with
  |call d=>
   rw[hop]at hok;simp only[Ge]at hok;split at hok
   ·rename_i x hx;simp only[acz]at hok;obtain⟨h3,h4⟩:=hok;simp only[aN]at hst;obtain⟨⟨v0,σ0⟩,r1,he⟩:=aan hst;have hxR:=Jt ht hg h3;have hargs:=Gu ht hg h4;unfold qK at r1;split at r1
    ·rename_i g first cap hfe
     rw[hfe]at hxR;obtain⟨fs,cs,e1,e2,e3⟩:=Gv hxR;have hinv:∀n,mH F n P (M.fm g) (fs++d.args.map a.eval++cs) w (dR M c w σ0 v0):=fun n=>(hC g _ σ v0 σ0 r1 F n w c _ hF hs hg ((e2.append hargs).append e3)).1;refine mH.wp hF hinv ?_ hdef fun cv w' hp=>?_
     ·unfold execOp;rw[hop];simp only[Go.resolve,hx,e1];rfl
     obtain⟨c',p1,p2,p3⟩:=hp.mater false;rw[he]at p1 p3;exact hK cv w' c' p1 p2 p3
    ·rename_i l site env' hfe;split at r1
     ·rename_i hpd;rw[hfe]at hxR;obtain⟨b,tmps,w1,e1,e2,_⟩:=hR site l env' _ σ v0 σ0 r1 F n w c _ _ hF hs hg hargs hpd hxR;have hrun:(execOp a.eval o).run P w=.ok (.round b (c.loops l).fn tmps (c.loops l).assign (c.loops l).body) w1:=by
       rw[←e2];unfold execOp;rw[hop];simp only[Go.resolve,hx,e1];show (Instr.yield b (#[]++d.args.map a.eval)).run P w=_;simp
      refine⟨fun f _=>hF.fn f,?_⟩;rw[Oper.semAt_eq _ _ _ hdef,hrun];refine⟨fun hx=>absurd hx (by rw[hF.depth];simp),?_⟩;obtain⟨b',tmps',w1',e1',e2',e3'⟩:=hR site l env' _ σ v0 σ0 r1 F (n-1) w c _ _ hF hs hg hargs hpd hxR;rw[e1]at e1';cases e1';rw[e2]at e2';cases e2';refine e3'.mono fun e w' ⟨cv,hcv,hp⟩=>?_;subst hcv;obtain⟨c',p1,p2,p3⟩:=hp.mater false;rw[he]at p1 p3;exact hK cv w' c' p1 p2 p3
     cases r1
    cases r1
   cases hok
  |_=>rw[hop]at hok;simp[Ge]at hok
 exact (aeV hs ht hg hok hst (fun f x m e=>h1 ⟨f,x,m,e⟩) (fun f x e=>h2 ⟨f,x,e⟩)).wp hF hdef hK
end Go.AM
namespace Go.AM
mutual
theorem rh:∀{a b:aa},same a b=true→a=b
 |.agg a,b,h=>by
  cases b<;>simp only[same,ai1]at h;rw[jZ h]
 |.tup a,b,h=>by
  cases b<;>simp only[same,ai1]at h;rw[jZ h]
 |.wh _ a,b,h=>by
  cases b<;>simp only[same,ai1,acz,afE]at h;rw[jZ h.2,h.1]
 |.lst a,b,h=>by
  cases b<;>simp only[same,ai1]at h;rw[jZ h]
 |.cptr _ x _,b,h=>by
  cases b<;>simp only[same,ai1,acz,afE]at h;obtain⟨⟨h1,h2⟩,h3⟩:=h;rw[rh h2,h1,h3]
 |.fn _ a c,b,h=>by
  cases b<;>simp only[same,ai1,acz,afE]at h;obtain⟨⟨h1,h2⟩,h3⟩:=h;rw[jZ h2,jZ h3,h1]
 |.imap _ a,b,h=>by
  cases b<;>simp only[same,ai1,acz,afE]at h;rw[Ht h.2,h.1]
 |.yld _ _ a,b,h=>by
  cases b<;>simp only[same,ai1,acz,afE]at h;obtain⟨⟨h1,h2⟩,h3⟩:=h;rw[jZ h3,h1,h2]
 |.frs _ a,b,h=>by
  cases b<;>simp only[same,ai1,acz,afE]at h;rw[jZ h.2,h.1]
 |.int ..,b,h=>by cases b<;>simp[same]at h<;>simp[h]
 |.bool _,b,h=>by cases b<;>simp[same]at h<;>simp[h]
 |.str _,b,h=>by cases b<;>simp[same]at h<;>simp[h]
 |.nilp,b,h=>by cases b<;>simp[same]at h<;>rfl
 |.nilf,b,h=>by cases b<;>simp[same]at h<;>rfl
 |.nilm,b,h=>by cases b<;>simp[same]at h<;>rfl
 |.yz,b,h=>by cases b<;>simp[same]at h<;>rfl
 |.sl ..,b,h=>by cases b<;>simp[same]at h<;>simp[h]
 |.ptr ..,b,h=>by cases b<;>simp[same]at h<;>simp[h]
 |.asl ..,b,h=>by cases b<;>simp[same]at h<;>simp[h]
 |.mp _,b,h=>by cases b<;>simp[same]at h<;>simp[h]
 |.emp _,b,h=>by cases b<;>simp[same]at h<;>simp[h]
 |.any,b,h=>by cases b<;>simp[same]at h<;>rfl
theorem jZ:∀{a b:List aa},nm a b=true→a=b
 |[],[],_=>rfl
 |[],_::_,h=>by simp[nm]at h
 |_::_,[],h=>by simp[nm]at h
 |a::x,b::y,h=>by
  simp only[nm,acz]at h;rw[rh h.1,jZ h.2]
theorem Ht:∀{a b:List (aa×aa)},yd a b=true→a=b
 |[],[],_=>rfl
 |[],_::_,h=>by simp[yd]at h
 |_::_,[],h=>by simp[yd]at h
 |(a,b)::x,(a',b')::y,h=>by
  simp only[yd,acz]at h;obtain⟨⟨h1,h2⟩,h3⟩:=h;rw[rh h1,rh h2,Ht h3]
end
mutual
theorem oP:∀(a:aa),same a a=true
 |.agg a=>by simp only[same];exact fN a
 |.tup a=>by simp only[same];exact fN a
 |.wh _ a=>by simp only[same,atT,al5];exact fN a
 |.lst a=>by simp only[same];exact fN a
 |.cptr _ x _=>by simp only[same,atT,al5,auq];exact oP x
 |.fn _ a c=>by simp only[same,atT,al5,acz];exact⟨fN a,fN c⟩
 |.imap _ a=>by simp only[same,atT,al5];exact yT a
 |.yld _ _ a=>by simp only[same,atT,al5];exact fN a
 |.frs _ a=>by simp only[same,atT,al5];exact fN a
 |.int ..=>by simp[same]
 |.bool _=>by simp[same]
 |.str _=>by simp[same]
 |.nilp=>by simp[same]
 |.nilf=>by simp[same]
 |.nilm=>by simp[same]
 |.yz=>by simp[same]
 |.sl ..=>by simp[same]
 |.ptr ..=>by simp[same]
 |.asl ..=>by simp[same]
 |.mp _=>by simp[same]
 |.emp _=>by simp[same]
 |.any=>by simp[same]
theorem fN:∀(a:List aa),nm a a=true
 |[]=>by simp[nm]
 |a::x=>by simp only[nm,acz];exact⟨oP a,fN x⟩
theorem yT:∀(a:List (aa×aa)),yd a a=true
 |[]=>by simp[yd]
 |(a,b)::x=>by simp only[yd,acz];exact⟨⟨oP a,oP b⟩,yT x⟩
end
theorem acH{a b:Obj}(h:Q9 a b=true):a=b:=by
 cases a<;>cases b<;>simp only[Q9,ai1,acz,afE,ad7]at h
 ·obtain⟨⟨h1,h2⟩,h3⟩:=h;rw[h1,h2,jZ h3]
 ·rw[Ht h]
 ·rw[h.1,h.2]
 rfl
theorem Ud(a:Obj):Q9 a a=true:=by
 cases a<;>simp[Q9,fN,yT]
theorem Hf:∀{a b:ah},oa a b=true→a=b
 |[],[],_=>rfl
 |[],_::_,h=>by simp[oa]at h
 |_::_,[],h=>by simp[oa]at h
 |a::x,b::y,h=>by
  simp only[oa,acz]at h;rw[acH h.1,Hf h.2]
theorem za:∀(a:ah),oa a a=true
 |[]=>by simp[oa]
 |a::x=>by simp only[oa,acz];exact⟨Ud a,za x⟩
end Go.AM
namespace Go.AM
variable {C:ec} {env:List aa}
structure yr (C:ec) (env:List aa) (ins:List aU) (ls:List aa) (s:Nat→ah):Prop where
 len:ls.length=ins.length
 step:∀n (h:n<ins.length) (h':n<ls.length),(wanted env (ls.take n) ins[n].guard=some true∧aN C env (ls.take n) (s n) ins[n].op=some (ls[n],s (n+1))) ∨
  (wanted env (ls.take n) ins[n].guard=some false∧ls[n]=.tup []∧s (n+1)=s n)
theorem yv:∀(ins:List aU) (l0:List aa) (σ:ah) (ls:List aa) (σ':ah),ib C env ins l0 σ=some (ls,σ') →
  ∃(l1:List aa) (s:Nat→ah),ls=l0++l1∧l1.length=ins.length∧s 0=σ∧s ins.length=σ' ∧
   ∀n (h:n<ins.length) (h':n<l1.length),(wanted env (l0++l1.take n) ins[n].guard=some true∧aN C env (l0++l1.take n) (s n) ins[n].op=some (l1[n],s (n+1))) ∨
    (wanted env (l0++l1.take n) ins[n].guard=some false∧l1[n]=.tup []∧s (n+1)=s n)
 |[],l0,σ,ls,σ',h=>by
  simp only[ib,afV,atP]at h;obtain⟨rfl,rfl⟩:=h;exact⟨[],fun _=>σ,by simp,rfl,rfl,rfl,fun n h=>absurd h (by simp)⟩
 |i::r,l0,σ,ls,σ',h=>by
  simp only[ib]at h;have go:∀(x:aa) (σ1:ah),ib C env r (l0++[x]) σ1=some (ls,σ') →
    ((wanted env l0 i.guard=some true∧aN C env l0 σ i.op=some (x,σ1))∨(wanted env l0 i.guard=some false∧x=.tup []∧σ1=σ)) →
    ∃(l1:List aa) (s:Nat→ah),ls=l0++l1∧l1.length=(i::r).length∧s 0=σ∧s (i::r).length=σ' ∧
     ∀n (h:n<(i::r).length) (h':n<l1.length),(wanted env (l0++l1.take n) (i::r)[n].guard=some true∧aN C env (l0++l1.take n) (s n) (i::r)[n].op=some (l1[n],s (n+1))) ∨
      (wanted env (l0++l1.take n) (i::r)[n].guard=some false∧l1[n]=.tup []∧s (n+1)=s n):=fun x σ1 h1 h2=>by
   obtain⟨l1,s,e1,e2,e3,e4,e5⟩:=yv r (l0++[x]) σ1 ls σ' h1;refine⟨x::l1,fun n=>match n with|0=>σ|n+1=>s n,by rw[e1];simp,by simp[e2],rfl,by simpa using e4,fun n hn hn'=>?_⟩;cases n with
   |zero=>simpa [e3] using h2
   |succ n=>
    have:=e5 n (by simpa using hn) (by simpa using hn');simpa using this
  split at h
  ·rename_i hw;obtain⟨⟨x,σ1⟩,h1,h2⟩:=aS h;exact go x σ1 h2 (.inl ⟨hw,h1⟩)
  ·rename_i hw;exact go (.tup []) σ h (.inr ⟨hw,rfl,rfl⟩)
  cases h
theorem Pz{ins:List aU}{σ σ':ah}{ls:List aa}(h:ib C env ins [] σ=some (ls,σ')):∃s,yr C env ins ls s∧s 0=σ∧s ins.length=σ':=by
 obtain⟨l1,s,e1,e2,e3,e4,e5⟩:=yv ins [] σ ls σ' h;simp only[ah5]at e1 e5;subst e1;exact⟨s,⟨e2,e5⟩,e3,e4⟩
theorem D7:∀(ins:List aU) (l0:List aa) (s0:List ah) (σ:ah) (ls:List aa) (ss:List ah) (σ':ah),pO C env ins l0 s0 σ=some (ls,ss,σ') →
  ∃(l1:List aa) (s:Nat→ah),ls=l0++l1∧l1.length=ins.length∧s 0=σ∧s ins.length=σ'∧ss++[σ']=s0++(List.range (ins.length+1)).map s ∧
   ∀n (h:n<ins.length) (h':n<l1.length),(wanted env (l0++l1.take n) ins[n].guard=some true∧aN C env (l0++l1.take n) (s n) ins[n].op=some (l1[n],s (n+1))) ∨
    (wanted env (l0++l1.take n) ins[n].guard=some false∧l1[n]=.tup []∧s (n+1)=s n)
 |[],l0,s0,σ,ls,ss,σ',h=>by
  simp only[pO,afV,atP]at h;obtain⟨rfl,rfl,rfl⟩:=h;exact⟨[],fun _=>σ,by simp,rfl,rfl,rfl,by simp,fun n h=>absurd h (by simp)⟩
 |i::r,l0,s0,σ,ls,ss,σ',h=>by
  simp only[pO]at h;have go:∀(x:aa) (σ1:ah),pO C env r (l0++[x]) (s0++[σ]) σ1=some (ls,ss,σ') →
    ((wanted env l0 i.guard=some true∧aN C env l0 σ i.op=some (x,σ1))∨(wanted env l0 i.guard=some false∧x=.tup []∧σ1=σ)) →
    ∃(l1:List aa) (s:Nat→ah),ls=l0++l1∧l1.length=(i::r).length∧s 0=σ∧s (i::r).length=σ'∧ss++[σ']=s0++(List.range ((i::r).length+1)).map s ∧
     ∀n (h:n<(i::r).length) (h':n<l1.length),(wanted env (l0++l1.take n) (i::r)[n].guard=some true∧aN C env (l0++l1.take n) (s n) (i::r)[n].op=some (l1[n],s (n+1))) ∨
      (wanted env (l0++l1.take n) (i::r)[n].guard=some false∧l1[n]=.tup []∧s (n+1)=s n):=fun x σ1 h1 h2=>by
   obtain⟨l1,s,e1,e2,e3,e4,e6,e5⟩:=D7 r (l0++[x]) (s0++[σ]) σ1 ls ss σ' h1;refine⟨x::l1,fun n=>match n with|0=>σ|n+1=>s n,by rw[e1];simp,by simp[e2],rfl,by simpa using e4,?_,fun n hn hn'=>?_⟩
   ·rw[e6,aiG,List.range_succ_eq_map (n:=r.length+1)];simp
   cases n with
   |zero=>simpa [e3] using h2
   |succ n=>
    have:=e5 n (by simpa using hn) (by simpa using hn');simpa using this
  split at h
  ·rename_i hw;obtain⟨⟨x,σ1⟩,h1,h2⟩:=aS h;exact go x σ1 h2 (.inl ⟨hw,h1⟩)
  ·rename_i hw;exact go (.tup []) σ h (.inr ⟨hw,rfl,rfl⟩)
  cases h
theorem Hw{ls:List aa}{ops:List aU}{ss:List ah}:∀{chk:List (Nat×Nat)},mg C env ls ops ss chk=some ()→∀n j,(n,j)∈chk→∃I τ,ops[n]?=some I∧ss[j]?=some τ∧aN C env (ls.take n) τ I.op=some (kr ls n,τ)
 |[],_,n,j,h=>by cases h
 |(n0,j0)::r,h,n,j,hm=>by
  simp only[mg]at h;split at h
  ·rename_i I τ e1 e2;obtain⟨q,h1,h2⟩:=aS h;split at h2
   ·rename_i hs;simp only[acz]at hs;rcases arm.1 hm with hm|hm
    ·cases hm;refine⟨I,τ,e1,e2,?_⟩;rw[h1,←rh hs.1,←Hf hs.2]
    exact Hw h2 n j hm
   cases h2
  cases h
theorem Yw{ins:List aU}{σ σ':ah}{ls:List aa}{ss:List ah}{chk:List (Nat×Nat)}(h:pO C env ins [] [] σ=some (ls,ss,σ'))(hc:mg C env ls ins (ss++[σ']) chk=some ()) :
  ∃s,yr C env ins ls s∧s 0=σ∧s ins.length=σ'∧∀(n j:Nat) (I:aU),(n,j)∈chk→ins[n]?=some I→aN C env (ls.take n) (s j) I.op=some (kr ls n,s j):=by
 obtain⟨l1,s,e1,e2,e3,e4,e6,e5⟩:=D7 ins [] [] σ ls ss σ' h;simp only[ah5]at e1 e5 e6;subst e1;refine⟨s,⟨e2,e5⟩,e3,e4,fun n j I hm hI=>?_⟩;obtain⟨I',τ,i1,i2,i3⟩:=Hw hc n j hm;rw[hI]at i1;cases i1;rw[e6,ate]at i2;obtain⟨j',j1,j2⟩:=aQ i2;have:j'=j:=by
  obtain⟨_,hj⟩:=aaN.1 j1;simpa using hj.symm
 subst this;rw[j2];exact i3
def Ze(bh:Nat→Bool):F4→Nat
 |.mov _|.pick ..|.build ..|.mkl ..|.fldv ..|.idxv ..|.idxt ..|.bin ..|.eqb ..|.eqa ..|.isnil ..|.una ..|.conv ..|.slicet ..|.lent _|.cap _|.mins ..|.maxs ..|.mkfn ..|.ext ..|.bad=>0
 |.load ..|.nils ..|.fld ..|.idxs ..|.idxa ..|.nilck _|.slice ..|.slice0 _|.aslice ..|.len _|.look ..|.mlen _=>1
 |.call f _ mat=>if !mat&&bh f then 1 else 2
 |_=>2
def sP(bh:Nat→Bool)(C:ec):Prop:=∀f args σ v σ',bh f=true→C f args σ=some (v,σ')→σ'=σ
theorem Q5{v:aa}{σ:ah}:(mater false (v,σ)).2=σ:=by
 unfold mater rI;dsimp only;split
 ·split<;>rfl
 split<;>rfl
theorem alH{bh:Nat→Bool}(hp:sP bh C){ls:List aa}{o:F4}(h:Ze bh o≤1){σ σ':ah}{v:aa}(hs:aN C env ls σ o=some (v,σ')):σ'=σ:=by
 have m:∀{q:Option aa},q.map (·,σ)=some (v,σ')→σ'=σ:=fun {q} h=>by
  cases q with
  |none=>cases h
  |some a=>cases h;rfl
 have ite:∀{p:Prop} [Decidable p] {q:Option (aa×ah)},(if p then q else none)=some (v,σ')→q=some (v,σ'):=fun {p} _ {q} h=>by
  split at h
  ·exact h
  cases h
 cases o with
 |call f args mat=>
  simp only[Ze]at h;split at h
  ·rename_i hc;simp only[acz,as9]at hc;simp only[aN]at hs;obtain⟨⟨v0,σ0⟩,h1,h2⟩:=aQ hs;have:=hp _ _ _ _ _ hc.2 h1;subst this;rw[hc.1]at h2;have e:=Q5 (v:=v0) (σ:=σ0);rw[h2]at e;exact e
  omega
 |mov x=>cases hs;rfl
 |mkl k xs=>simp only[aN]at hs;have:=ite hs;cases this;rfl
 |pick c x y=>exact m hs
 |build z ps=>simp only[aN]at hs;obtain⟨_,_,h2⟩:=aQ hs;cases h2;rfl
 |fldv=>exact m hs
 |idxv=>simp only[aN]at hs;obtain⟨_,_,h2⟩:=aS hs;exact m (ite h2)
 |idxt=>simp only[aN]at hs;obtain⟨_,_,h2⟩:=aS hs;exact m h2
 |bin=>exact m hs
 |eqb=>exact m hs
 |eqa=>exact m hs
 |isnil=>exact m hs
 |una=>exact m hs
 |conv=>exact m hs
 |slicet=>
  simp only[aN]at hs;obtain⟨_,_,h2⟩:=aS hs;obtain⟨_,_,h3⟩:=aS h2;obtain⟨_,_,h4⟩:=aS h3;exact m h4
 |lent=>simp only[aN]at hs;obtain⟨_,_,h2⟩:=aQ hs;cases h2;rfl
 |cap=>exact m hs
 |mins=>exact m hs
 |maxs=>exact m hs
 |mkfn=>cases hs;rfl
 |ext=>exact m hs
 |bad=>cases hs
 |load=>exact m hs
 |nils=>exact m hs
 |fld=>exact m hs
 |idxs=>simp only[aN]at hs;obtain⟨_,_,h2⟩:=aS hs;exact m h2
 |idxa=>simp only[aN]at hs;obtain⟨_,_,h2⟩:=aS hs;exact m (ite h2)
 |nilck=>exact m hs
 |slice=>
  simp only[aN]at hs;obtain⟨_,_,h2⟩:=aS hs;obtain⟨_,_,h3⟩:=aS h2;obtain⟨_,_,h4⟩:=aS h3;exact m h4
 |slice0=>simp only[aN]at hs;obtain⟨_,_,h2⟩:=aQ hs;cases h2;rfl
 |aslice=>exact m hs
 |len=>simp only[aN]at hs;obtain⟨_,_,h2⟩:=aQ hs;cases h2;rfl
 |look=>
  simp only[aN]at hs;obtain⟨_,_,h2⟩:=aS (ite hs);obtain⟨_,_,h3⟩:=aQ h2;cases h3;rfl
 |mlen=>simp only[aN]at hs;obtain⟨_,_,h2⟩:=aQ hs;cases h2;rfl
 |_=>simp[Ze]at h
theorem ZA{bh:Nat→Bool}{ls:List aa}{o:F4}(h:Ze bh o=0){σ σ':ah}{v:aa}(hs:aN C env ls σ o=some (v,σ'))(τ:ah):aN C env ls τ o=some (v,τ):=by
 have m:∀{q:Option aa},q.map (·,σ)=some (v,σ')→q.map (·,τ)=some (v,τ):=fun {q} h=>by
  cases q with
  |none=>cases h
  |some a=>cases h;rfl
 cases o with
 |call f args mat=>simp only[Ze]at h;split at h<;>cases h
 |mov x=>cases hs;rfl
 |mkl k xs=>
  simp only[aN]at hs ⊢;split at hs
  ·rename_i hc;rw[if_pos hc];cases hs;rfl
  cases hs
 |pick c x y=>exact m hs
 |build z ps=>simp only[aN]at hs ⊢;obtain⟨_,h1,h2⟩:=aQ hs;rw[h1];cases h2;rfl
 |fldv=>exact m hs
 |idxv=>
  simp only[aN]at hs ⊢;obtain⟨k,h1,h2⟩:=aS hs;rw[h1];simp only[al7];split at h2
  ·rename_i hc;rw[if_pos hc];exact m h2
  cases h2
 |idxt=>simp only[aN]at hs ⊢;obtain⟨k,h1,h2⟩:=aS hs;rw[h1];exact m h2
 |bin=>exact m hs
 |eqb=>exact m hs
 |eqa=>exact m hs
 |isnil=>exact m hs
 |una=>exact m hs
 |conv=>exact m hs
 |slicet=>
  simp only[aN]at hs ⊢;obtain⟨_,h1,h2⟩:=aS hs;obtain⟨_,h3,h4⟩:=aS h2;obtain⟨_,h5,h6⟩:=aS h4;rw[h1];simp only[al7];rw[h3];simp only[al7];rw[h5];exact m h6
 |lent=>simp only[aN]at hs ⊢;obtain⟨_,h1,h2⟩:=aQ hs;rw[h1];cases h2;rfl
 |cap=>exact m hs
 |mins=>exact m hs
 |maxs=>exact m hs
 |mkfn=>cases hs;rfl
 |ext=>exact m hs
 |bad=>cases hs
 |_=>simp[Ze]at h
end Go.AM
namespace Go.AM
variable {M:bw} {P:Program}
abbrev EI:=List (bp×Option Nat)
def nZ(its:EI)(k:Nat):bp:=((its[k]?).map (·.1)).getD (.val .any)
def cR(its:EI)(k:Nat):Option Nat:=(its[k]?).bind (·.2)
def TU(ops:List Oper)(t:Tmp):Option Nat:=ops.findIdx? fun o=>o.dst==some t
def I5(ops:List Oper)(em:List Tmp)(its:EI)(bef:Nat→Nat)(i:Nat)(t:Tmp):Option bp:=
 match TU ops t with
 |none=>(em.idxOf? t).map .env
 |some k=>if (bef i).testBit k then some (nZ its k) else if k==i ||(bef k).testBit i then (em.idxOf? t).map .env else none
def VB:Value→Option aa
 |.int k n=>some (.int k n)
 |.bool b=>some (.bool b)
 |.string s=>some (.str s.data.toList)
 |.pointer none=>some .nilp
 |.nilFunc=>some .nilf
 |.map none=>some .nilm
 |_=>none
theorem amv{w:World}{c:bv}{v:Value}{a:aa}(h:VB v=some a):R M w c a v:=by
 unfold VB at h;split at h<;>first|(cases h;done)|(cases h;first|exact .int|exact .bool|exact .str rfl|exact .nilp|exact .nilf|exact .nilm)
def Vd:Op→Option Operand
 |.move x=>some x
 |.assign x=>some x
 |_=>none
def gA(bh:Nat→Bool)(ins:List aU)(chk:List (Nat×Nat))(n:Nat):Bool:=match ins[n]? with
 |some I=>Ze bh I.op==2&&!chk.contains (n,n)
 |none=>false
def xF(its:EI)(bef:Nat→Nat)(ops:List Oper)(i:Nat):Option (Nat×Bool)→Option (bp×Bool)→Bool
 |none,none=>true
 |some (j,b),some (x,b')=>b==b'&&(bef i).testBit j&&DL (nZ its j) x&&((ops[j]?).bind (·.dst)).isSome
 |_,_=>false
def RE(ops:List Oper)(em:List Tmp)(its:EI)(bef:Nat→Nat)(i:Nat)(o:Oper):Bool:=o.guard.isNone&&(match Vd o.op with
 |some (.tmp t)=>(match I5 ops em its bef i t with
  |some x=>DL x (nZ its i)
  |none=>false)
 |some (.const v)=>(match VB v with
  |some a=>DL (.val a) (nZ its i)
  |none=>false)
 |_=>false)
structure uu (M:bw) (P:Program) (bh:Nat→Bool) (ops:Array Oper) (ins:List aU) (em:List Tmp) (its:EI) (bef:Nat→Nat) (chk:List (Nat×Nat)) (late:Option Nat) (nt:Nat):Prop where
 size:its.length=ops.size
 dst:∀(i:Nat) (o:Oper) (d:Tmp),ops[i]?=some o→o.dst=some d→d<nt
 uniq:∀(i k:Nat) (oi ok:Oper) (d:Tmp),ops[i]?=some oi→ops[k]?=some ok→oi.dst=some d→ok.dst=some d→i=k
 low:∀i k,(bef i).testBit k=true→k<i
 mono:∀k i n m,cR its k=some n→cR its i=some m→k<i→n<m
 onto:∀n,n<ins.length→∃k,cR its k=some n∧k<ops.size
 bound:∀k n,cR its k=some n→n<ins.length
 item:∀(i:Nat) (o:Oper),ops[i]?=some o→(cR its i=none∧RE ops.toList em its bef i o=true) ∨
  ∃n I,cR its i=some n∧ins[n]?=some I∧nZ its i=.loc n∧Ge M P (I5 ops.toList em its bef i) o.op I.op=true∧xF its bef ops.toList i o.guard I.guard=true ∧
   (gA bh ins chk n=true→late≠some i→∀k m,k<i→cR its k=some m→gA bh ins chk m=true→(bef i).testBit k=true) ∧
   (gA bh ins chk n=false→Ze bh I.op=0 ∨
    ((∃k m,cR its k=some m∧gA bh ins chk m=true∧(bef i).testBit k=true)∨(∀k m,cR its k=some m→gA bh ins chk m=true→¬m<n)∨(n,0)∈chk) ∧
    ∀k m,cR its k=some m→gA bh ins chk m=true→(bef k).testBit i=true∨(∃k' m',cR its k'=some m'∧gA bh ins chk m'=true∧m<m'∧(bef i).testBit k'=true) ∨
     (m<n∧∀k' m',cR its k'=some m'→gA bh ins chk m'=true→m<m'→¬m' < n)∨(n,m+1)∈chk)
 lateOk:∀d,late=some d→bef d=0∧∃o T t n kk z,ops[d]?=some o∧o.op=.alloc T∧o.guard=none∧o.dst=some t∧cR its d=some n∧ins[n]?=some ⟨.box kk (.val z),none⟩∧gA bh ins chk n=true ∧
  (∀j,(bef j).testBit d=true→∀k m,cR its k=some m→gA bh ins chk m=true→m<n→(bef j).testBit k=true)∧∀j,j<ops.size→j≠d→I5 ops.toList em its bef j t≠none→(bef j).testBit d=true
 guards:∀(n j:Nat) (I:aU),(n,j)∈chk→ins[n]?=some I→I.guard=none
theorem KP{ops:Array Oper}{t:Tmp}(h:TU ops.toList t=none){k:Nat}{o:Oper}(ho:ops[k]?=some o):o.dst≠some t:=by
 unfold TU at h;rw[List.findIdx?_eq_none_iff]at h;have hm:o∈ops.toList:=by
  rw[avg];exact⟨k,by simpa using ho⟩
 have:=h o hm;simpa using this
theorem Ko{ops:Array Oper}{t:Tmp}{k:Nat}(h:TU ops.toList t=some k):∃o,ops[k]?=some o∧o.dst=some t:=by
 unfold TU at h;rw[atm]at h;obtain⟨hk,h1,_⟩:=h;exact⟨ops[k]'(by simpa using hk),by simp,by simpa using h1⟩
theorem R.undef{w:World}{c:bv}:R M w c (.tup []) undef:=.tup (fun _=>.nilFunc) rfl (fun i h=>absurd h (by simp)) (fun i h=>absurd h (by simp))
theorem CI{env ls:List aa}{x:bp}(n:Nat):x.eval env (ls.take n)=x.eval env ls∨x.eval env (ls.take n)=.any:=by
 cases x with
 |env i=>exact .inl rfl
 |val v=>exact .inl rfl
 |loc j=>
  simp only[bp.eval,kr,auj];by_cases h:j<n
  ·simp[h]
  simp[h]
theorem R.take{w:World}{c:bv}{env ls:List aa}{x:bp}{v:Value}(h:R M w c (x.eval env ls) v)(n:Nat):R M w c (x.eval env (ls.take n)) v:=by
 rcases CI (env:=env) (ls:=ls) (x:=x) n with e|e
 ·rw[e];exact h
 rw[e];exact .any
section
variable {bh:Nat→Bool} {ops:Array Oper} {ins:List aU} {em:List Tmp} {its:EI} {bef:Nat→Nat} {chk:List (Nat×Nat)} {env ls:List aa} {s:Nat→ah} {C:ec} {w0:World} {c0:bv} {a0:Act}
def gO(bh:Nat→Bool)(ins:List aU)(its:EI)(chk:List (Nat×Nat))(S:Nat→Prop)(p:Nat):Prop:=
 (p=0∨∃k n,S k∧cR its k=some n∧gA bh ins chk n=true∧p=n+1) ∧
 ∀k n,cR its k=some n→gA bh ins chk n=true→(S k↔n<p)
def qZ(M:bw)(bh:Nat→Bool)(ops:Array Oper)(ins:List aU)(its:EI)(bef:Nat→Nat)(chk:List (Nat×Nat))(env ls:List aa)(s:Nat→ah)(c0:bv)(w0:World)(a0:Act)(x:Option (Tmp×Nat×Go.Obj))(S:Nat→Prop)(a:Act)(w:World):Prop:=
 (∀i k,S i→(bef i).testBit k=true→S k)∧(∀i,S i→i<ops.size)∧∃c p,cO M w c (s p)∧fK c0 w0 c w∧gO bh ins its chk S p ∧
  (∀(i:Nat) (o:Oper) (d:Tmp),S i→ops[i]?=some o→o.dst=some d→R M w c ((nZ its i).eval env ls) (a.tmps.getD d undef)) ∧
  (∀t,(∀(i:Nat) (o:Oper),S i→ops[i]?=some o→o.dst≠some t)→(∀b ob,x≠some (t,b,ob))→a.tmps.getD t undef=a0.tmps.getD t undef)∧a.tmps.size=a0.tmps.size∧a.defers=a0.defers ∧
  ∀t b ob,x=some (t,b,ob)→a.tmps.getD t undef=.pointer (some ⟨b,0,none⟩)∧w0.heap.size≤b∧w.heap[b]?=some ob∧¬c.bor b∧∀id,c.H id≠.dead→c.place id≠some b
theorem zd(hT:yr C env ins ls s)(hp:sP bh C)(hchk:∀(n j:Nat) (I:aU),(n,j)∈chk→ins[n]?=some I→aN C env (ls.take n) (s j) I.op=some (kr ls n,s j))(hgd:∀(n j:Nat) (I:aU),(n,j)∈chk→ins[n]?=some I→I.guard=none)
  {p n:Nat} (hpn:p≤n) (hn:n≤ins.length) (h:∀m,p≤m→m<n→gA bh ins chk m=false):s n=s p:=by
 induction n with
 |zero=>rw[show p=0 by omega]
 |succ n ih=>
  by_cases e:p=n+1
  ·rw[e]
  rw[←ih (by omega) (by omega) (fun m h1 h2=>h m h1 (by omega))];have hn':n<ins.length:=by omega
  have hnw:=h n (by omega) (by omega);have hl:=hT.len;rcases hT.step n hn' (by omega) with⟨h1,h2⟩|⟨_,_,h3⟩
  ·unfold gA at hnw;rw[ad3 hn']at hnw;simp only[avb,atv,auk,auH]at hnw;rcases hnw with h4|h4
   ·have:Ze bh ins[n].op≤1:=by
     have:Ze bh ins[n].op≤2:=by
      cases ins[n].op<;>simp[Ze];split<;>omega
     omega
    exact alH hp this h2
   have h5:=hchk n n ins[n] h4 (ad3 hn');rw[h5]at h2;simp only[afV,atP]at h2;exact h2.2.symm
  exact h3
theorem Ao(hT:yr C env ins ls s)(hp:sP bh C)(hchk:∀(n j:Nat) (I:aU),(n,j)∈chk→ins[n]?=some I→aN C env (ls.take n) (s j) I.op=some (kr ls n,s j))(hgd:∀(n j:Nat) (I:aU),(n,j)∈chk→ins[n]?=some I→I.guard=none)
  (onto:∀n,n<ins.length→∃k,cR its k=some n∧k<ops.size) {p n:Nat} (hpl:p≤ins.length) (hn:n≤ins.length)
  (h:∀k m,cR its k=some m→gA bh ins chk m=true→(m<p↔m<n)):s p=s n:=by
 have nw:∀m,m<ins.length→gA bh ins chk m=true→(m<p↔m<n):=fun m hm hw=>by
  obtain⟨k,hk,_⟩:=onto m hm;exact h k m hk hw
 by_cases hle:p≤n
 ·refine (zd hT hp hchk hgd hle hn fun m h1 h2=>?_).symm;cases e:gA bh ins chk m with
  |false=>rfl
  |true=>exact absurd ((nw m (by omega) e).2 h2) (by omega)
 refine zd hT hp hchk hgd (by omega) hpl fun m h1 h2=>?_;cases e:gA bh ins chk m with
 |false=>rfl
 |true=>exact absurd ((nw m (by omega) e).1 h2) (by omega)
theorem Wa{w:World}{c:bv}{a:Act}{i n:Nat}{o:Oper}{g:Option (bp×Bool)}{t:Bool}(h:xF its bef ops.toList i o.guard g=true)(hw:wanted env (ls.take n) g=some t)
  (hv:∀(j:Nat) (oj:Oper) (d:Tmp),(bef i).testBit j=true→ops[j]?=some oj→oj.dst=some d→R M w c ((nZ its j).eval env ls) (a.tmps.getD d undef)):Region.wanted o (yielded ops a.tmps)=t:=by
 unfold Region.wanted;cases hg:o.guard with
 |none=>
  rw[hg]at h;cases g with
  |none=>simp only[wanted,afV]at hw;exact hw
  |some x=>simp[xF]at h
 |some jb=>
  obtain⟨j,b⟩:=jb;rw[hg]at h;cases g with
  |none=>simp[xF]at h
  |some xb=>
   obtain⟨x,b'⟩:=xb;simp only[xF,acz,afE]at h;obtain⟨⟨⟨rfl,h2⟩,h3⟩,h4⟩:=h;have hx:=sR h3;obtain⟨d,hd⟩:=atJ.1 h4;obtain⟨oj,hj,hjd⟩:=aS hd;have hj':ops[j]?=some oj:=by simpa using hj
   have hr:=hv j oj d h2 hj' hjd;rw[hx]at hr;simp only[wanted]at hw;split at hw
   ·rename_i t0 ht0;simp only[afV]at hw;have he:x.eval env ls=.bool t0:=by
     rcases CI (env:=env) (ls:=ls) (x:=x) n with e|e
     ·rw[←e];exact ht0
     rw[e]at ht0;cases ht0
    rw[he]at hr;have hval:a.tmps[d]?=some (.bool t0):=by
     rw[ala]at hr;cases hq:a.tmps[d]? with
     |none=>rw[hq]at hr;simp[undef]at hr;cases hr
     |some v=>rw[hq]at hr;simp at hr;cases hr;rfl
    have hy:yielded ops a.tmps j=some t0:=by
     unfold yielded;simp[hj',hjd,hval]
    show (yielded ops a.tmps j==some b)=t;rw[hy,←hw];cases t0<;>cases b<;>rfl
   ·rename_i ht0;simp only[afV]at hw;have he:x.eval env ls=.tup []:=by
     rcases CI (env:=env) (ls:=ls) (x:=x) n with e|e
     ·rw[←e];exact ht0
     rw[e]at ht0;cases ht0
    rw[he]at hr;show (yielded ops a.tmps j==some b)=t;have hy:yielded ops a.tmps j=none:=by
     unfold yielded;rw[ala]at hr;simp only[hj',al7,hjd];cases hq:a.tmps[d]? with
     |none=>rfl
     |some v=>
      rw[hq]at hr;simp only[ary]at hr;cases hr;rfl
    rw[hy,←hw];cases b<;>rfl
   cases hw
end
end Go.AM
namespace Go.AM
variable {M:bw} {P:Program}
variable {bh:Nat→Bool} {ops:Array Oper} {ins:List aU} {em:List Tmp} {its:EI} {bef:Nat→Nat} {chk:List (Nat×Nat)} {late:Option Nat} {nt:Nat} {env ls:List aa} {s:Nat→ah} {C:ec} {w0:World} {c0:bv} {a0:Act}
theorem MY{ls:List aa}{n:Nat}(h:n<ls.length):kr ls n=ls[n]:=by
 unfold kr;rw[ad3 h];rfl
theorem Lf(hok:uu M P bh ops ins em its bef chk late nt)(hT:yr C env ins ls s)(hp:sP bh C)(hchk:∀(n j:Nat) (I:aU),(n,j)∈chk→ins[n]?=some I→aN C env (ls.take n) (s j) I.op=some (kr ls n,s j))
  (hC:gK M P C) (hR:gw M P C) {F:Fence} {n0:Nat} (hF:pZ F) (hg:fT M w0 c0) (ht0:iL M w0 c0 env [] (fun t=>(em.idxOf? t).map .env) a0.tmps) (hsz:nt≤a0.tmps.size)
  {Q:Exit→Act→World→Prop} {i:Nat} {o:Oper} (ho:ops[i]?=some o) {x:Option (Tmp×Nat×Go.Obj)} (hxr:∀t b ob,x=some (t,b,ob)→I5 ops.toList em its bef i t=none∧o.dst≠some t) {S:Nat→Prop} (hi:¬S i) (hall:∀n,cR its i=some n→gA bh ins chk n=true→∀k m,k<i→cR its k=some m→gA bh ins chk m=true→S k) (hb:∀k,(bef i).testBit k=true→S k) {a:Act} {w:World}
  (hinv:qZ M bh ops ins its bef chk env ls s c0 w0 a0 x S a w) :
  wpOpIn F n0 P ops Q i (qZ M bh ops ins its bef chk env ls s c0 w0 a0 x fun j=>S j∨j=i) a w:=by
 obtain⟨cl,lt,c,p,hs,hst,hcut,hv,hun,hts,hdf,hhid⟩:=hinv;have hio:i<ops.size:=(ak4.1 ho).1;have hg':fT M w c:=hg.ext hst.toExt
 have hT1:iL M w c env ls (I5 ops.toList em its bef i) a.tmps:=by
  intro t x' hx;have hxt:∀b ob,x≠some (t,b,ob):=fun b ob e=>by rw[(hxr t b ob e).1]at hx;cases hx
  unfold I5 at hx;have base:(em.idxOf? t).map bp.env=some x'→(∀(i:Nat) (o:Oper),S i→ops[i]?=some o→o.dst≠some t)→R M w c (x'.eval env ls) (a.tmps.getD t undef):=fun h1 h2=>by
   rw[hun t h2 hxt];have:=(ht0 t x' h1).ext hst.toExt;obtain⟨j,_,rfl⟩:=aQ h1;exact this
  split at hx
  ·rename_i hw;exact base hx fun k ok _ hk=>KP hw hk
  rename_i k hw;obtain⟨ok,hk,hkd⟩:=Ko hw;split at hx
  ·rename_i hbk;cases hx;exact hv k ok t (hb k hbk) hk hkd
  split at hx
  ·rename_i hc;refine base hx fun k' ok' hS hk' hd'=>?_;have:=hok.uniq k' k ok' ok t hk' hk hd' hkd;subst this;simp only[arX,afE]at hc;rcases hc with rfl|hc
   ·exact hi hS
   exact hi (cl _ _ hS hc)
  cases hx
 have hT2:∀n,iL M w c env (ls.take n) (I5 ops.toList em its bef i) a.tmps:=fun n t x hx=>(hT1 t x hx).take n
 have upd:∀(cv:Value) (w':World) (c':bv) (p':Nat),cO M w' c' (s p')→fK c w c' w'→gO bh ins its chk (fun j=>S j∨j=i) p'→R M w' c' ((nZ its i).eval env ls) cv →
   qZ M bh ops ins its bef chk env ls s c0 w0 a0 x (fun j=>S j∨j=i) (a.put o.dst cv) w':=fun cv w' c' p' h1 h2 h3 h4=>by
  refine⟨fun j k hj hk=>?_,fun j hj=>?_,c',p',h1,hst.trans h2,h3,fun j oj d hj hoj hd=>?_,fun t ht hxt=>?_,?_,?_,fun t b ob e=>?_⟩
  ·rcases hj with hj|rfl
   ·exact .inl (cl j k hj hk)
   exact .inl (hb k hk)
  ·rcases hj with hj|rfl
   ·exact lt j hj
   exact hio
  ·by_cases e:j=i
   ·subst e;rw[ho]at hoj;cases hoj;rw[hd,o9 (by rw[hts];exact aju (hok.dst _ _ _ ho hd) hsz),if_pos rfl];exact h4
   have hSj:S j:=hj.resolve_right e;have:=(hv j oj d hSj hoj hd).ext h2.toExt;cases hod:o.dst with
   |none=>exact this
   |some d'=>
    have hne:¬d=d':=fun e2=>by
     subst e2;exact e (hok.uniq _ _ _ _ _ hoj ho hd hod)
    rw[o9 (by rw[hts];exact aju (hok.dst _ _ _ ho hod) hsz),if_neg hne];exact this
  ·have hne:o.dst≠some t:=ht i o (.inr rfl) ho;have:=hun t (fun j oj hj=>ht j oj (.inl hj)) hxt;cases hod:o.dst with
   |none=>exact this
   |some d'=>
    have hne':¬t=d':=fun e2=>hne (by rw[hod,e2]);rw[o9 (by rw[hts];exact aju (hok.dst _ _ _ ho hod) hsz),if_neg hne'];exact this
  ·cases hod:o.dst with
   |none=>exact hts
   |some d=>simp[Act.put,hts]
  ·cases hod:o.dst with
   |none=>exact hdf
   |some d=>exact hdf
  obtain⟨y1,y2,y3,y4,y5⟩:=hhid t b ob e;have hne:=(hxr t b ob e).2;have hbl:b<w.heap.size:=(ak4.1 y3).1;refine⟨?_,y2,by rw[h2.frame b hbl y5];exact y3,fun hb=>?_,fun id z1 z2=>?_⟩
  ·cases hod:o.dst with
   |none=>exact y1
   |some d'=>
    have hne':¬t=d':=fun e2=>hne (by rw[hod,e2]);rw[o9 (by rw[hts];exact aju (hok.dst _ _ _ ho hod) hsz),if_neg hne'];exact y1
  ·rcases h2.oldb b hb hbl with hb|⟨q,q1,q2⟩
   ·exact y4 hb
   exact y5 q q1 q2
  obtain⟨q,q1,q2⟩:=h2.liv id b z1 z2 hbl;exact y5 q q1 q2
 have hpl:p≤ins.length:=by
  rcases hcut.1 with rfl|⟨k,n,_,hk,_,rfl⟩
  ·exact amn _
  exact hok.bound k n hk
 unfold wpOpIn;rw[ho];simp only;rcases hok.item i o ho with⟨hn,hel⟩|⟨n,I,hn,hI,hval,hop,hgo,hnw,hx⟩
 ·
  unfold RE at hel;simp only[acz,auO]at hel;obtain⟨hgn,hel⟩:=hel;have hw:Region.wanted o (yielded ops a.tmps)=true:=by unfold Region.wanted;rw[hgn]
  rw[if_pos hw];have hcut':gO bh ins its chk (fun j=>S j∨j=i) p:=by
   refine⟨hcut.1.imp id fun ⟨k,n,h1,h2⟩=>⟨k,n,.inl h1,h2⟩,fun k n hk hnw=>?_⟩;rw[←hcut.2 k n hk hnw];refine⟨fun h=>h.resolve_right fun e=>?_,.inl⟩;rw[e,hn]at hk;cases hk
  have fin:∀y,Vd o.op=some y→R M w c ((nZ its i).eval env ls) (a.eval y)→o.wpIn F n0 P a w (qZ M bh ops ins its bef chk env ls s c0 w0 a0 x fun j=>S j∨j=i) Q:=fun y hm hr=>by
   refine⟨fun f _=>hF.fn f,?_⟩;have hex:(execOp a.eval o)=pure (.value (a.eval y)):=by
    unfold execOp;cases hopp:o.op<;>rw[hopp]at hm<;>simp only[Vd]at hm<;>first|(cases hm;done)|(cases hm;rfl)
   rw[Oper.semAt_eq _ _ _ (fun d e=>by rw[e]at hm;cases hm),hex];exact upd _ w c p hs (.refl c w) hcut' hr
  split at hel
  ·rename_i t hm;split at hel
   ·rename_i x hx;refine fin _ hm ?_;have:=hT1 t x hx;rw[sR hel]at this;exact this
   cases hel
  ·rename_i v hm;split at hel
   ·rename_i x hx;refine fin _ hm ?_;rw[←sR hel];exact amv hx
   cases hel
  cases hel
 obtain⟨hnl,hIe⟩:=aaN.1 hI;have hnl':n<ls.length:=by rw[hT.len];exact hnl
 have hvR:∀(j:Nat) (oj:Oper) (d:Tmp),(bef i).testBit j=true→ops[j]?=some oj→oj.dst=some d→R M w c ((nZ its j).eval env ls) (a.tmps.getD d undef):=fun j oj d hj=>hv j oj d (hb j hj);have hvaln:(nZ its i).eval env ls=ls[n]:=by
  rw[hval];exact MY hnl'
 have hcutN:gA bh ins chk n=true→s p=s n:=fun hw=>by
  refine Ao hT hp hchk hok.guards hok.onto hpl (by omega) fun k m hk hm=>?_;rw[←hcut.2 k m hk hm];rcases aue k i with h|h|h
  ·exact⟨fun _=>hok.mono _ _ _ _ hk hn h,fun _=>hall n hn hw k m h hk hm⟩
  ·subst h;rw[hn]at hk;cases hk;exact⟨fun h=>absurd h hi,fun h=>absurd h (ato _)⟩
  have hnm:=hok.mono _ _ _ _ hn hk h;refine⟨fun hS=>absurd ((hcut.2 i n hn hw).2 (by have:=(hcut.2 k m hk hm).1 hS;omega)) hi,fun h2=>?_⟩;omega
 have cutN:gA bh ins chk n=true→gO bh ins its chk (fun j=>S j∨j=i) (n+1):=fun hw=>by
  refine⟨.inr ⟨i,n,.inr rfl,hn,hw,rfl⟩,fun k m hk hm=>?_⟩;rcases aue k i with h|h|h
  ·have:=hok.mono _ _ _ _ hk hn h;exact⟨fun _=>by omega,fun _=>.inl (hall n hn hw k m h hk hm)⟩
  ·subst h;rw[hn]at hk;cases hk;exact⟨fun _=>by omega,fun _=>.inr rfl⟩
  have:=hok.mono _ _ _ _ hn hk h;refine⟨fun hS=>?_,fun h2=>by omega⟩;rcases hS with hS|rfl
  ·exact absurd ((hcut.2 i n hn hw).2 (by have:=(hcut.2 k m hk hm).1 hS;omega)) hi
  exact absurd h (ato _)
 have cutX:gA bh ins chk n=false→gO bh ins its chk (fun j=>S j∨j=i) p:=fun hw=>by
  refine⟨hcut.1.imp id fun ⟨k,n,h1,h2⟩=>⟨k,n,.inl h1,h2⟩,fun k m hk hm=>?_⟩;rw[←hcut.2 k m hk hm];refine⟨fun h=>h.resolve_right fun e=>?_,.inl⟩;rw[e,hn]at hk;cases hk;rw[hw]at hm;cases hm
 rcases hT.step n hnl hnl' with⟨h1,h2⟩|⟨h1,h2,h3⟩
 ·
  rw[hIe]at h1 h2;have hw:Region.wanted o (yielded ops a.tmps)=true:=Wa hgo h1 hvR;rw[if_pos hw];have run:∀p',aN C env (ls.take n) (s p) I.op=some (ls[n],s p')→gO bh ins its chk (fun j=>S j∨j=i) p'→o.wpIn F n0 P a w (qZ M bh ops ins its bef chk env ls s c0 w0 a0 x fun j=>S j∨j=i) Q:=fun p' hstep hc'=>
   amT hF hC hR hs (hT2 n) hg' hop hstep fun cv w' c' b1 b2 b3=>upd cv w' c' p' b1 b2 hc' (by rw[hvaln];exact b3)
  cases hw2:gA bh ins chk n with
  |true=>
   refine run (n+1) ?_ (cutN hw2);rw[hcutN hw2];exact h2
  |false=>
   refine run p ?_ (cutX hw2);have hsn:s (n+1)=s n:=zd hT hp hchk hok.guards (atB n) hnl fun m a1 a2=>by
    have:m=n:=by omega
    rw[this];exact hw2
   rw[hsn]at h2;have same:(∀k m,cR its k=some m→gA bh ins chk m=true→(m<p↔m<n))→aN C env (ls.take n) (s p) I.op=some (ls[n],s p):=fun h=>by
    rw[Ao hT hp hchk hok.guards hok.onto hpl (by omega) h];exact h2
   have byChk:(n,p)∈chk→aN C env (ls.take n) (s p) I.op=some (ls[n],s p):=fun h=>by
    rw[hchk n p I h hI,MY hnl']
   rcases hx hw2 with h0|⟨hz,hk⟩
   ·exact ZA h0 h2 (s p)
   rcases hcut.1 with rfl|⟨k,m,hS,hkm,hmw,rfl⟩
   ·rcases hz with⟨k,m,b1,b2,b3⟩|hz|hz
    ·have:=(hcut.2 k m b1 b2).1 (hb k b3);omega
    ·exact same fun k m b1 b2=>⟨fun h=>by omega,fun h=>absurd h (hz k m b1 b2)⟩
    exact byChk hz
   rcases hk k m hkm hmw with h|⟨k',m',b1,b2,b3,b4⟩|⟨b1,b2⟩|h
   ·exact absurd (cl k i hS h) hi
   ·have:=(hcut.2 k' m' b1 b2).1 (hb k' b4);omega
   ·exact same fun k' m' e1 e2=>⟨fun h=>by omega,fun h=>by
     by_cases e:m<m'
     ·exact absurd h (b2 k' m' e1 e2 e)
     omega⟩
   exact byChk h
 rw[hIe]at h1;have hw:Region.wanted o (yielded ops a.tmps)=false:=Wa hgo h1 hvR;rw[if_neg (by rw[hw];simp)];refine⟨fun f _=>hF.fn f,?_⟩;have hany:R M w c ((nZ its i).eval env ls) undef:=by rw[hvaln,h2];exact R.undef
 cases hw2:gA bh ins chk n with
 |true=>exact upd _ w c (n+1) (by rw[h3,←hcutN hw2];exact hs) (.refl c w) (cutN hw2) hany
 |false=>exact upd _ w c p hs (.refl c w) (cutX hw2) hany
end Go.AM
namespace Go.AM
variable {M:bw} {P:Program} {w w':World} {c c':bv} {σ:ah}
theorem cO.over(hs:cO M w c σ)(h:∀b,b<w.heap.size→(c.bor b∨∃id,c.H id≠.dead∧c.place id=some b)→w'.heap[b]?=w.heap[b]?)(hz:w.heap.size≤w'.heap.size):cO M w' c σ∧Ext c w c w':=by
 have hext:Ext c w c w':=⟨fun _ h=>h,fun _ h=>h,fun b hb=>h b (hs.low b (hb.elim (fun h=>h) (hs.sb b))) (.inl (hb.elim (fun h=>h) (hs.sb b))),aes _,fun _ _=>.inl rfl,fun _ _ _ _=>⟨rfl,rfl,rfl⟩⟩;refine⟨⟨hs.H,hs.N,hs.sb,fun b hb=>aju (hs.low b hb) hz,fun id b h1 h2=>?_,hs.inj,fun id o ho=>?_⟩,hext⟩
 ·obtain⟨p1,p2⟩:=hs.plow id b h1 h2;exact⟨aju p1 hz,p2⟩
 refine (hs.obj id o ho).ext hext (fun _=>⟨rfl,rfl,rfl⟩) fun hnd b hb=>?_;have hd:c.H id≠.dead:=by rw[hs.H];exact fun h=>hnd ((mI ho).1 h)
 exact h b (hs.plow id b hd hb).1 (.inr ⟨id,hd,hb⟩)
end Go.AM
