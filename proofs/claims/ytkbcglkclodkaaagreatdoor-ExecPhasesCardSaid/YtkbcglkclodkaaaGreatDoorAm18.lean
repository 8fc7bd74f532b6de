/- Part of the proof. -/
import Derived.Test.YtkbcglkclodkaaaGreatDoorAm17
import Derived.Test.YtkbcglkclodkaaaGreatDoorAm16
set_option linter.unusedVariables false
set_option linter.unusedSimpArgs false
section
namespace Go.AM
open P
set_option maxHeartbeats 8000000
set_option maxRecDepth 8000
theorem acall_nil_sl{f:Nat}{g:AFunc}(h:code.fns f=.nilfn g)(hm:g.mode.isPure=true){x:AVal}{σ:Store}{xs:List AVal}(hx:snap σ x=.imm true xs)(he:emptyS σ x=xs.isEmpty) :
  acall code f [x] σ=(pcall f [.imm true xs]).map (·,σ):=by
 have e2:∀ b,emptyS [] (.imm b xs)=xs.isEmpty:=fun b=>by cases xs<;>simp[emptyS,rd]
 have h1:=acall_nil h hm true xs σ
 rw[← h1,acall_nilfn good h,acall_nilfn good h,he]
 have e3:emptyS σ (.imm true xs)=xs.isEmpty:=by cases xs<;>simp[emptyS,rd]
 rw[e3]
 have e4:snap σ (.imm true xs)=.imm true xs:=by simp
 cases xs.isEmpty with
 | true=>rfl
 | false=>
  simp only[Bool.false_eq_true,if_false]
  rw[acallG_pure hm [x] σ,acallG_pure hm [.imm true xs] σ]
  simp only[List.map_cons,List.map_nil,hx,e4]
def overG{β:Type}(doF:EN→List β→β×Int)(_:Nat)(n:EN)(st:List β):List β⊕Int:=
 if (doF n (st.drop (st.length - (eparts n.tag).toNat))).2=0 then .inl (st.take (st.length - (eparts n.tag).toNat)++[(doF n (st.drop (st.length - (eparts n.tag).toNat))).1])
 else .inr (doF n (st.drop (st.length - (eparts n.tag).toNat))).2
def overF{β:Type}(z:β)(doF:EN→List β→β×Int)(e:List EN):β×Int:=
 match foldL (overG doF) e 0 [] with
 | .inl st=>(st.headD z,0)
 | .inr no=>(z,no)
theorem firstsL_snoc:∀ (l:List EN) (n:EN) (i:Nat) (a o:List Nat),firstsL (l++[n]) i a o=(firstsL l i a o).bind fun q=>stepE (i+l.length) n q.1 q.2
 | [],n,i,a,o=>by simp[firstsL];cases stepE i n a o<;>rfl
 | m::l,n,i,a,o=>by
  simp only[List.cons_append,firstsL,List.length_cons]
  cases stepE i m a o with
  | none=>rfl
  | some q=>
   simp only[Option.bind_some]
   rw[firstsL_snoc l n (i+1) q.1 q.2]
   simp only[Nat.add_assoc,Nat.add_comm 1]
theorem okE_at{e:List EN}(ho:okE e=true){k:Nat}(hk:k≤e.length):∃ a o,firstsL (e.take k) 0 [] []=some (a,o):=by
 cases h:firstsL (e.take k) 0 [] [] with
 | some q=>exact ⟨q.1,q.2,rfl⟩
 | none=>
  have key:∀ m,k≤m→m≤e.length→firstsL (e.take m) 0 [] []=none:=by
   intro m hm
   induction hm with
   | refl=>intro _;exact h
   | @step m hm ih=>
    intro hl
    rw[List.take_succ_eq_append_getElem (by omega),firstsL_snoc,ih (by omega)];rfl
  have:=key e.length hk (Nat.le_refl _)
  rw[List.take_length]at this
  unfold okE at ho
  rw[this]at ho;cases ho
theorem okE_step{e:List EN}(ho:okE e=true){k:Nat}{n:EN}(hn:e[k]?=some n){a o:List Nat}(h:firstsL (e.take k) 0 [] []=some (a,o)) :
  ∃ a' o',firstsL (e.take (k+1)) 0 [] []=some (a',o')∧stepE k n a o=some (a',o')∧0≤eparts n.tag∧eparts n.tag≤o.length∧countsE n=true∧o'.length=o.length - (eparts n.tag).toNat+1:=by
 obtain ⟨hk,he⟩:=List.getElem?_eq_some_iff.1 hn
 obtain ⟨a',o',h'⟩:=okE_at ho (k:=k+1) (by omega)
 have hs:=h'
 rw[List.take_succ_eq_append_getElem hk,firstsL_snoc,h,he]at hs
 simp only[Option.bind_some,List.length_take,Nat.min_eq_left (Nat.le_of_lt hk),Nat.zero_add]at hs
 refine ⟨a',o',h',hs,?_⟩
 unfold stepE at hs
 split at hs
 ·cases hs
 ·rename_i hc
  have h1:0≤eparts n.tag∧eparts n.tag≤o.length∧countsE n=true:=by
   refine ⟨by omega,by omega,?_⟩
   cases hq:countsE n
   ·exact absurd (.inr (.inr hq)) hc
   ·rfl
  refine ⟨h1.1,h1.2.1,h1.2.2,?_⟩
  have hd:(o.drop (o.length - (eparts n.tag).toNat)).length=(eparts n.tag).toNat:=by rw[List.length_drop];omega
  have:=eparts_le n.tag
  rcases hL:o.drop (o.length - (eparts n.tag).toNat) with _|⟨p,_|⟨q,_|⟨r,t⟩⟩⟩<;>rw[hL]at hs hd<;>simp only[List.length_nil,List.length_cons]at hs hd<;>(try split at hs)<;>(try cases hs)<;>simp<;>omega
theorem okE_end{e:List EN}(ho:okE e=true){a o:List Nat}(h:firstsL e 0 [] []=some (a,o)):o.length=1:=by
 unfold okE at ho
 rw[h]at ho
 simp at ho
 exact ho.1
theorem pop_int{f:Int→AVal}(hf:f=(AVal.int .i64))(st:List Int)(k ep:Nat)(hk:k≤st.length)(hn:st.length≤most)(OA OB:Obj) :
  acall code I.qdn [.int .i64 k,.ptr 1 0 0 0] [OA,.arr 1 0 [.sl 2 ep 0 st.length],.arr 1 ep (st.map f),OB] =
   some (.sl 4 0 0 k,[OA,.arr 1 0 [.sl 2 ep 0 (st.length - k)],.arr 1 ep (st.map f),OB,.arr 1 0 ((st.drop (st.length - k)).map f)]):=by
 subst hf
 rw[acall_keep c_qdn rfl]
 have hn':st.length≤68719476736:=hn
 have w1:=w64 (n:=(st.length:Int) - (k:Int)) (by omega) (by omega)
 have w2:((st.length:Int) - (k:Int)).toNat=st.length - k:=by omega
 have w3:(0:Int)≤(st.length:Int) - (k:Int):=by omega
 have w4:st.length - k+k=st.length:=by omega
 have hw4:st.length - (st.length - k)=k:=by omega
 have hd:(st.drop (st.length - k)).length=k:=by rw[List.length_drop];omega
 have hcl:=Clone_int_int (enc:=(AVal.int .i64)) true (st.drop (st.length - k)) (by rw[hd];omega)
 have hx:snap [OA,.arr 1 0 [.sl 2 ep 0 st.length],.arr 1 ep (st.map (AVal.int .i64)),OB] (.sl 2 ep (st.length - k) k)=.imm true ((st.drop (st.length - k)).map (AVal.int .i64)):=by
  have ht:(st.drop (st.length - k)).take k=st.drop (st.length - k):=List.take_of_length_le (by omega)
  simp[w4,← List.map_drop,ht,← List.map_take]
 have he:emptyS [OA,.arr 1 0 [.sl 2 ep 0 st.length],.arr 1 ep (st.map (AVal.int .i64)),OB] (.sl 2 ep (st.length - k) k)=((st.drop (st.length - k)).map (AVal.int .i64)).isEmpty:=by
  have ht:(st.drop (st.length - k)).take k=st.drop (st.length - k):=List.take_of_length_le (by omega)
  simp only[emptyS,rd,sliceAt]
  simp[w4,← List.map_drop,ht,← List.map_take]
  cases st.drop (st.length - k)<;>simp
 have hcall:=acall_nil_sl c_qfn rfl hx he
 rw[hcl]at hcall
 have hle:(st.length:Int) - (k:Int)≤st.length:=by omega
 simp[f_qdn,b_qdn,w1,w2,w3,hw4,hcall,hd,hk]
def overH_int(doF:EN→List Int→Int×Int)(k:Nat)(n:EN)(s:Nat×List Int):Nat×List Int⊕Int:=match overG doF k n s.2 with
 | .inl st=>.inl (s.1+1,st)
 | .inr r=>.inr r
theorem overH_fold_int(doF:EN→List Int→Int×Int):∀ (l:List EN) (k ep:Nat) (st:List Int),foldL (overH_int doF) l k (ep,st)=match foldL (overG doF) l k st with
  | .inl st'=>.inl (ep+l.length,st')
  | .inr r=>.inr r
 | [],k,ep,st=>rfl
 | n::l,k,ep,st=>by
  simp only[foldL,overH_int]
  cases overG doF k n st with
  | inl st'=>
   simp only
   rw[overH_fold_int doF l (k+1) (ep+1) st']
   cases foldL (overG doF) l (k+1) st'<;>simp[Nat.add_assoc,Nat.add_comm 1]
  | inr r=>rfl
theorem over_int(b:Bool)(e:List EN)(hn:e.length≤most)(ho:okE e=true)(g:AVal)(hg:∀ fl top base σ,(fl || top)=true→fz fl top base σ 20 g=g)(doF:EN→List Int→Int×Int)
  (Iv:Int→Prop) (hIv:∀ n∈e,∀ l:List Int,l.length=(eparts n.tag).toNat→countsE n=true→(∀ y∈l,Iv y)→(doF n l).2=0→Iv (doF n l).1)
  (hdo:∀ n∈e,∀ l:List Int,l.length=(eparts n.tag).toNat→countsE n=true→(∀ y∈l,Iv y)→∀ σ x,snap σ x=.imm true (l.map (AVal.int .i64))→acallV code g [n.a,x] σ=some (.tup [(AVal.int .i64) (doF n l).1,.int .i64 (doF n l).2],σ)) :
  pcall I.qdm [.agg [.imm b (e.map EN.a)],g]=some (.tup [(AVal.int .i64) (overF 0 doF e).1,.int .i64 (overF 0 doF e).2]):=by
 rw[pcall_eq c_qdm rfl]
 have hg1:=hg true false 0 [] rfl
 have h:=rounds_list (base:=3) (clr:=[9,10,11,15,16]) (b:=l_qdm_0) e
  (fun k (s:Nat×List Int)=>⟨[.agg [.imm b (e.map EN.a)],g,.ptr 0 0 0 0,.int .i64 0,.int .i64 0,.ptr 1 0 0 0,.int .i64 0,.fn I.qdn [] [.ptr 1 0 0 0],.int .i64 0,.any,.any,.any,.imm b (e.map EN.a),.int .i64 e.length,.int .i64 k,.any,.any,.any],[.arr 1 0 [.agg [.imm b (e.map EN.a)]],.arr 1 0 [.sl 2 s.1 0 s.2.length],.arr 1 s.1 (s.2.map (AVal.int .i64))]⟩)
  (fun k s=>s.2.length≤k∧(∀ y∈s.2,Iv y)∧∃ a o,firstsL (e.take k) 0 [] []=some (a,o)∧s.2.length=o.length)
  (overH_int doF)
  (fun s=>(.ext 0,⟨[.agg [.imm b (e.map EN.a)],g,.ptr 0 0 0 0,.int .i64 0,.int .i64 0,.ptr 1 0 0 0,.int .i64 0,.fn I.qdn [] [.ptr 1 0 0 0],.int .i64 0,.any,.any,.any,.imm b (e.map EN.a),.int .i64 e.length,.int .i64 e.length,.bool false,.any,.any],[.arr 1 0 [.agg [.imm b (e.map EN.a)]],.arr 1 0 [.sl 2 s.1 0 s.2.length],.arr 1 s.1 (s.2.map (AVal.int .i64))]⟩))
  (fun r o=>r≠0∧∃ k x9 x10 A τ,o=(.ext 0,⟨[.agg [.imm b (e.map EN.a)],g,.ptr 0 0 0 0,.int .i64 0,.int .i64 0,.ptr 1 0 0 0,.int .i64 0,.fn I.qdn [] [.ptr 1 0 0 0],.int .i64 r,x9,x10,.int .i64 r,.imm b (e.map EN.a),.int .i64 e.length,k,.bool true,.bool true,.any],.arr 1 0 [.agg [.imm b (e.map EN.a)]]::A::τ⟩))
  (fun k n s hk hy hi=>by
   obtain ⟨ep,st⟩:=s
   obtain ⟨hle,hiv,a,o,hf,hlo⟩:=hi
   simp only at hle hlo
   obtain ⟨a',o',hf',hs,h1,h2,h3,h4⟩:=okE_step ho hy hf
   have hlt:((k:Int) < (e.length:Int)):=by omega
   have hk2:(eparts n.tag).toNat≤st.length:=by omega
   have hpc:((eparts n.tag).toNat:Int)=eparts n.tag:=by omega
   have hd:(st.drop (st.length - (eparts n.tag).toNat)).length=(eparts n.tag).toNat:=by rw[List.length_drop];omega
   have hp:=parts_spec n.tag
   have hpop:=fun OA OB=>pop_int rfl st (eparts n.tag).toNat ep hk2 (by omega) OA OB
   rw[hpc]at hpop
   have hivd:∀ y∈st.drop (st.length - (eparts n.tag).toNat),Iv y:=fun y hy'=>hiv y (List.mem_of_mem_drop hy')
   have hdo':=hdo n (List.mem_of_getElem? hy) (st.drop (st.length - (eparts n.tag).toNat)) hd h3 hivd
   have hIv':=hIv n (List.mem_of_getElem? hy) (st.drop (st.length - (eparts n.tag).toNat)) hd h3 hivd
   have hlen:st.length - (eparts n.tag).toNat+1≤most:=by omega
   have htl:(st.take (st.length - (eparts n.tag).toNat)).length=st.length - (eparts n.tag).toNat:=by rw[List.length_take];omega
   have hdo2:=hdo' [.arr 1 0 [.agg [.imm b (e.map EN.a)]],.arr 1 0 [.sl 2 ep 0 (st.length - (eparts n.tag).toNat)],.arr 1 ep (st.map (AVal.int .i64)),.arr 8 0 [n.a],.arr 1 0 ((st.drop (st.length - (eparts n.tag).toNat)).map (AVal.int .i64))] (.sl 4 0 0 (eparts n.tag).toNat) (by
    have:=List.take_of_length_le (Nat.le_of_eq hd)
    simp[← List.map_drop,hd,← List.map_take,this])
   unfold overH_int overG
   rcases hr:doF n (st.drop (st.length - (eparts n.tag).toNat)) with ⟨x,no⟩
   rw[hr]at hdo2 hIv'
   simp only[List.map_drop]at hdo2
   simp only
   have hz:∀ x,ncells ((AVal.int .i64) x)=1∧isAgg ((AVal.int .i64) x)=false:=fun x=>⟨rfl,rfl⟩
   have hzx:∀ fl top base σ n,fz fl top base σ (n+3) ((AVal.int .i64) x)=(AVal.int .i64) x:=fun fl top base σ n=>Fx.fx fl top base σ n x
   have hng:∀ fl top base σ n',fz fl top base σ (n'+3) n.a=n.a:=fun fl top base σ n'=>Fx.fx fl top base σ n' n
   have hnn:ncells n.a=8∧isAgg n.a=true:=⟨rfl,rfl⟩
   have htag:(cellsOf n.a)[0]?=some (.int .i64 n.tag):=rfl
   by_cases h0:no=0
   ·subst h0
    refine ⟨?_,by simp;omega,fun y hy'=>(List.mem_append.1 hy').elim (fun h=>hiv y (List.mem_of_mem_take h)) (fun h=>by rw[List.mem_singleton.1 h];exact hIv' rfl),a',o',hf',by simp[htl,h4,hlo]⟩
    simp[l_qdm_0,hlt,hy,hp,hpop,hdo2,htag,hz,hzx,hng,hnn,append,hlen,htl,wrap_lt hk hn,roundEnd,freezeObj,hg]
   ·rw[if_neg h0]
    exact ⟨_,by simp[l_qdm_0,hlt,hy,hp,hpop,hdo2,htag,hz,hzx,hng,hnn,bne_t h0];and_intros<;>rfl,h0,_,_,_,_,_,rfl⟩)
  (fun s _=>by simp[l_qdm_0]) (0,[]) ⟨Nat.le_refl _,by simp,[],[],by simp[firstsL],rfl⟩
 rw[overH_fold_int]at h
 unfold overF
 cases hf:foldL (overG doF) e 0 [] with
 | inl st=>
  rw[hf]at h
  obtain ⟨⟨_,_,a,o,h1,h2⟩,h3⟩:=h
  simp only at h2
  rw[List.take_length]at h1
  rw[okE_end ho h1]at h2
  match st,h2 with
  | [x],_=>
   simp at h3
   simp[f_qdm,b_qdm,hg1,h3]
 | inr r=>
  rw[hf]at h
  obtain ⟨_,h3,h0,k,x9,x10,A,τ,rfl⟩:=h
  simp at h3
  simp[f_qdm,b_qdm,hg1,h3,bne_t h0]
theorem pop_val{f:Val→AVal}(hf:f=Val.a)(st:List Val)(k ep:Nat)(hk:k≤st.length)(hn:st.length≤most)(OA OA1 OA3 OB:Obj) :
  acall code I.qdl [.int .i64 k,.ptr 2 0 0 0] [OA,OA1,.arr 1 0 [.sl 4 ep 0 st.length],OA3,.arr 4 ep (st.map f),OB] =
   some (.sl 6 0 0 k,[OA,OA1,.arr 1 0 [.sl 4 ep 0 (st.length - k)],OA3,.arr 4 ep (st.map f),OB,.arr 4 0 ((st.drop (st.length - k)).map f)]):=by
 subst hf
 rw[acall_keep c_qdl rfl]
 have hn':st.length≤68719476736:=hn
 have w1:=w64 (n:=(st.length:Int) - (k:Int)) (by omega) (by omega)
 have w2:((st.length:Int) - (k:Int)).toNat=st.length - k:=by omega
 have w3:(0:Int)≤(st.length:Int) - (k:Int):=by omega
 have w4:st.length - k+k=st.length:=by omega
 have hw4:st.length - (st.length - k)=k:=by omega
 have hd:(st.drop (st.length - k)).length=k:=by rw[List.length_drop];omega
 have hcl:=Clone_api_Value_api_Value (enc:=Val.a) true (st.drop (st.length - k)) (by rw[hd];omega)
 have hx:snap [OA,OA1,.arr 1 0 [.sl 4 ep 0 st.length],OA3,.arr 4 ep (st.map Val.a),OB] (.sl 4 ep (st.length - k) k)=.imm true ((st.drop (st.length - k)).map Val.a):=by
  have ht:(st.drop (st.length - k)).take k=st.drop (st.length - k):=List.take_of_length_le (by omega)
  simp[w4,← List.map_drop,ht,← List.map_take]
 have he:emptyS [OA,OA1,.arr 1 0 [.sl 4 ep 0 st.length],OA3,.arr 4 ep (st.map Val.a),OB] (.sl 4 ep (st.length - k) k)=((st.drop (st.length - k)).map Val.a).isEmpty:=by
  have ht:(st.drop (st.length - k)).take k=st.drop (st.length - k):=List.take_of_length_le (by omega)
  simp only[emptyS,rd,sliceAt]
  simp[w4,← List.map_drop,ht,← List.map_take]
  cases st.drop (st.length - k)<;>simp
 have hcall:=acall_nil_sl c_qfm rfl hx he
 rw[hcl]at hcall
 have hle:(st.length:Int) - (k:Int)≤st.length:=by omega
 simp[f_qdl,b_qdl,w1,w2,w3,hw4,hcall,hd,hk]
def overH_val(doF:EN→List Val→Val×Int)(k:Nat)(n:EN)(s:Nat×List Val):Nat×List Val⊕Int:=match overG doF k n s.2 with
 | .inl st=>.inl (s.1+1,st)
 | .inr r=>.inr r
theorem overH_fold_val(doF:EN→List Val→Val×Int):∀ (l:List EN) (k ep:Nat) (st:List Val),foldL (overH_val doF) l k (ep,st)=match foldL (overG doF) l k st with
  | .inl st'=>.inl (ep+l.length,st')
  | .inr r=>.inr r
 | [],k,ep,st=>rfl
 | n::l,k,ep,st=>by
  simp only[foldL,overH_val]
  cases overG doF k n st with
  | inl st'=>
   simp only
   rw[overH_fold_val doF l (k+1) (ep+1) st']
   cases foldL (overG doF) l (k+1) st'<;>simp[Nat.add_assoc,Nat.add_comm 1]
  | inr r=>rfl
theorem over_val(b:Bool)(e:List EN)(hn:e.length≤most)(ho:okE e=true)(g:AVal)(hg:∀ fl top base σ,(fl || top)=true→fz fl top base σ 20 g=g)(doF:EN→List Val→Val×Int)
  (Iv:Val→Prop) (hIv:∀ n∈e,∀ l:List Val,l.length=(eparts n.tag).toNat→countsE n=true→(∀ y∈l,Iv y)→(doF n l).2=0→Iv (doF n l).1)
  (hdo:∀ n∈e,∀ l:List Val,l.length=(eparts n.tag).toNat→countsE n=true→(∀ y∈l,Iv y)→∀ σ x,snap σ x=.imm true (l.map Val.a)→acallV code g [n.a,x] σ=some (.tup [Val.a (doF n l).1,.int .i64 (doF n l).2],σ)) :
  pcall I.qdk [.agg [.imm b (e.map EN.a)],g]=some (.tup [Val.a (overF zeroV doF e).1,.int .i64 (overF zeroV doF e).2]):=by
 rw[pcall_eq c_qdk rfl]
 have hg1:=hg true false 0 [] rfl
 have h:=rounds_list (base:=5) (clr:=[9,10,11,15,16]) (b:=l_qdk_0) e
  (fun k (s:Nat×List Val)=>⟨[.agg [.imm b (e.map EN.a)],g,.ptr 0 0 0 0,.ptr 1 0 0 0,.int .i64 0,.ptr 2 0 0 0,.ptr 3 0 0 0,.fn I.qdl [] [.ptr 2 0 0 0],.int .i64 0,.any,.any,.any,.imm b (e.map EN.a),.int .i64 e.length,.int .i64 k,.any,.any,.any],[.arr 1 0 [.agg [.imm b (e.map EN.a)]],.arr 4 0 [.agg [.int .i64 0,.int .i64 0,.int .u64 0,.str []]],.arr 1 0 [.sl 4 s.1 0 s.2.length],.arr 4 0 [.agg [.int .i64 0,.int .i64 0,.int .u64 0,.str []]],.arr 4 s.1 (s.2.map Val.a)]⟩)
  (fun k s=>s.2.length≤k∧(∀ y∈s.2,Iv y)∧∃ a o,firstsL (e.take k) 0 [] []=some (a,o)∧s.2.length=o.length)
  (overH_val doF)
  (fun s=>(.ext 0,⟨[.agg [.imm b (e.map EN.a)],g,.ptr 0 0 0 0,.ptr 1 0 0 0,.int .i64 0,.ptr 2 0 0 0,.ptr 3 0 0 0,.fn I.qdl [] [.ptr 2 0 0 0],.int .i64 0,.any,.any,.any,.imm b (e.map EN.a),.int .i64 e.length,.int .i64 e.length,.bool false,.any,.any],[.arr 1 0 [.agg [.imm b (e.map EN.a)]],.arr 4 0 [.agg [.int .i64 0,.int .i64 0,.int .u64 0,.str []]],.arr 1 0 [.sl 4 s.1 0 s.2.length],.arr 4 0 [.agg [.int .i64 0,.int .i64 0,.int .u64 0,.str []]],.arr 4 s.1 (s.2.map Val.a)]⟩))
  (fun r o=>r≠0∧∃ k x9 x10 A τ,o=(.ext 0,⟨[.agg [.imm b (e.map EN.a)],g,.ptr 0 0 0 0,.ptr 1 0 0 0,.int .i64 0,.ptr 2 0 0 0,.ptr 3 0 0 0,.fn I.qdl [] [.ptr 2 0 0 0],.int .i64 r,x9,x10,.int .i64 r,.imm b (e.map EN.a),.int .i64 e.length,k,.bool true,.bool true,.any],.arr 1 0 [.agg [.imm b (e.map EN.a)]]::.arr 4 0 [.agg [.int .i64 0,.int .i64 0,.int .u64 0,.str []]]::A::.arr 4 0 [.agg [.int .i64 0,.int .i64 0,.int .u64 0,.str []]]::τ⟩))
  (fun k n s hk hy hi=>by
   obtain ⟨ep,st⟩:=s
   obtain ⟨hle,hiv,a,o,hf,hlo⟩:=hi
   simp only at hle hlo
   obtain ⟨a',o',hf',hs,h1,h2,h3,h4⟩:=okE_step ho hy hf
   have hlt:((k:Int) < (e.length:Int)):=by omega
   have hk2:(eparts n.tag).toNat≤st.length:=by omega
   have hpc:((eparts n.tag).toNat:Int)=eparts n.tag:=by omega
   have hd:(st.drop (st.length - (eparts n.tag).toNat)).length=(eparts n.tag).toNat:=by rw[List.length_drop];omega
   have hp:=parts_spec n.tag
   have hpop:=fun OA OA1 OA3 OB=>pop_val rfl st (eparts n.tag).toNat ep hk2 (by omega) OA OA1 OA3 OB
   rw[hpc]at hpop
   have hivd:∀ y∈st.drop (st.length - (eparts n.tag).toNat),Iv y:=fun y hy'=>hiv y (List.mem_of_mem_drop hy')
   have hdo':=hdo n (List.mem_of_getElem? hy) (st.drop (st.length - (eparts n.tag).toNat)) hd h3 hivd
   have hIv':=hIv n (List.mem_of_getElem? hy) (st.drop (st.length - (eparts n.tag).toNat)) hd h3 hivd
   have hlen:st.length - (eparts n.tag).toNat+1≤most:=by omega
   have htl:(st.take (st.length - (eparts n.tag).toNat)).length=st.length - (eparts n.tag).toNat:=by rw[List.length_take];omega
   have hdo2:=hdo' [.arr 1 0 [.agg [.imm b (e.map EN.a)]],.arr 4 0 [.agg [.int .i64 0,.int .i64 0,.int .u64 0,.str []]],.arr 1 0 [.sl 4 ep 0 (st.length - (eparts n.tag).toNat)],.arr 4 0 [.agg [.int .i64 0,.int .i64 0,.int .u64 0,.str []]],.arr 4 ep (st.map Val.a),.arr 8 0 [n.a],.arr 4 0 ((st.drop (st.length - (eparts n.tag).toNat)).map Val.a)] (.sl 6 0 0 (eparts n.tag).toNat) (by
    have:=List.take_of_length_le (Nat.le_of_eq hd)
    simp[← List.map_drop,hd,← List.map_take,this])
   unfold overH_val overG
   rcases hr:doF n (st.drop (st.length - (eparts n.tag).toNat)) with ⟨x,no⟩
   rw[hr]at hdo2 hIv'
   simp only[List.map_drop]at hdo2
   simp only
   have hz:∀ x,ncells (Val.a x)=4∧isAgg (Val.a x)=true:=fun x=>⟨rfl,rfl⟩
   have hzx:∀ fl top base σ n,fz fl top base σ (n+3) (Val.a x)=Val.a x:=fun fl top base σ n=>Fx.fx fl top base σ n x
   have hng:∀ fl top base σ n',fz fl top base σ (n'+3) n.a=n.a:=fun fl top base σ n'=>Fx.fx fl top base σ n' n
   have hnn:ncells n.a=8∧isAgg n.a=true:=⟨rfl,rfl⟩
   have htag:(cellsOf n.a)[0]?=some (.int .i64 n.tag):=rfl
   by_cases h0:no=0
   ·subst h0
    refine ⟨?_,by simp;omega,fun y hy'=>(List.mem_append.1 hy').elim (fun h=>hiv y (List.mem_of_mem_take h)) (fun h=>by rw[List.mem_singleton.1 h];exact hIv' rfl),a',o',hf',by simp[htl,h4,hlo]⟩
    simp[l_qdk_0,hlt,hy,hp,hpop,hdo2,htag,Val.a,hz,hzx,hng,hnn,append,hlen,htl,wrap_lt hk hn,roundEnd,freezeObj,hg]
   ·rw[if_neg h0]
    exact ⟨_,by simp[l_qdk_0,hlt,hy,hp,hpop,hdo2,htag,Val.a,hz,hzx,hng,hnn,bne_t h0];and_intros<;>rfl,h0,_,_,_,_,_,rfl⟩)
  (fun s _=>by simp[l_qdk_0]) (0,[]) ⟨Nat.le_refl _,by simp,[],[],by simp[firstsL],rfl⟩
 rw[overH_fold_val]at h
 unfold overF
 cases hf:foldL (overG doF) e 0 [] with
 | inl st=>
  rw[hf]at h
  obtain ⟨⟨_,_,a,o,h1,h2⟩,h3⟩:=h
  simp only at h2
  rw[List.take_length]at h1
  rw[okE_end ho h1]at h2
  match st,h2 with
  | [x],_=>
   simp at h3
   simp[f_qdk,b_qdk,hg1,h3,zeroV,Val.a]
 | inr r=>
  rw[hf]at h
  obtain ⟨_,h3,h0,k,x9,x10,A,τ,rfl⟩:=h
  simp at h3
  simp[f_qdk,b_qdk,hg1,h3,bne_t h0,zeroV,Val.a]
end Go.AM
end
section
namespace Go.AM
open P
set_option maxHeartbeats 8000000
set_option maxRecDepth 8000
attribute [local simp] condRun_if when_if
@[simp] theorem V_yldX(l site:Nat)(env args:List AVal)(σ:Store):acallV code (.yld l site env) args σ=if pendAt σ l then acall code site (.frs l []::env++args) σ else none:=rfl
@[simp] theorem thenRng_x(l:Nat)(env:List AVal)(r:AVal×Store):thenRng l env (some r)=jumped l env r.2:=rfl
def grpA(g:List Val×List (List Val)):AVal:=.agg [rowX g.1,.imm false (g.2.map rowX)]
instance:Nc grpA 2 true:=⟨fun _=>rfl,fun _=>rfl⟩
instance:Fx grpA:=⟨fun fl top base σ n y=>by
 cases fl<;>simp[grpA,rowX]⟩
abbrev envG(b bc:Bool)(rs:List (List Val))(cols:List Int):List AVal:=
 [.imm b (rs.map rowX),.imm bc (intC cols),.ptr 0 0 0 0,.nil0,.int .i64 0,.int .i64 0,.sl 1 0 0 rs.length,.fn 65 [] [.ptr 0 0 0 0],.ptr 2 0 0 0,.any,.bool false,.fn 145 [] [.ptr 4 0 0 0,.ptr 5 0 0 0],.any]
abbrev stG(bc:Bool)(cols:List Int)(S:List (List Val))(ep:Nat)(C:List AVal)(off:Nat)(o:Obj)(r:List Obj):Store:=
 .arr 1 0 [.imm bc (intC cols)]::.arr 1 0 (S.map rowX)::.arr 1 0 [.sl 3 ep 0 C.length]::.arr 2 ep C::.arr 1 0 [.sl 1 0 off (S.length - off)]::.arr 1 0 [.fn 65 [] [.ptr 0 0 0 0]]::o::r
theorem round_G(b bc:Bool)(rs:List (List Val))(cols:List Int)(S:List (List Val))(ep:Nat)(G:List (List Val×List (List Val)))(off k:Nat)(a:List Val)(hk:1≤k)(ho:off+k≤S.length)(ha:S[off]?=some a)(hn:S.length≤8000)(hG:G.length≤8000)
  (hc:cols.length≤16) (hr:∀ c∈cols,0≤c∧c < a.length) :
  acall code 63 (.frs 6 []::(envG b bc rs cols++[.sl 1 0 off k])) (stG bc cols S ep (G.map grpA) off (.pend false none) []) =
   some (.bool true,stG bc cols S (ep+1) (G.map grpA++[.agg [.imm false ((takeR a cols).map Val.a),.sl 7 0 0 k]]) off (.pend false none) [.arr 1 0 (((S.drop off).take k).map rowX)]):=by
 rw[acall_round good (g:=r_row_Groups_0) rfl]
 have ht:∀ bc,pcall I.qfi [rowX a,.imm bc (intC cols)]=some (.imm false ((takeR a cols).map Val.a)):=fun bc=>take_spec bc a cols hc hr
 have hlt:off < S.length:=by omega
 have hx:∀ σ:Store,σ[1]?=some (.arr 1 0 (S.map rowX))→snap σ (.sl 1 0 off k)=.imm true (((S.drop off).take k).map rowX):=fun σ h=>by
  have ho':off+k≤(S.map rowX).length:=by simpa using ho
  simp[h,ho,← List.map_drop,← List.map_take]
 have he:∀ σ:Store,σ[1]?=some (.arr 1 0 (S.map rowX))→emptyS σ (.sl 1 0 off k)=(((S.drop off).take k).map rowX).isEmpty:=fun σ h=>by
  simp only[emptyS,rd,sliceAt,h]
  have:¬off+k=0:=by omega
  simp[ho,← List.map_drop,← List.map_take]
  cases (S.drop off).take k<;>simp
 have hlen:((S.drop off).take k).length=k:=by rw[List.length_take,List.length_drop];omega
 have hcl:=Clone_api_Row_api_Row (enc:=rowX) true ((S.drop off).take k) (by rw[hlen];unfold most;omega)
 have hcall:=fun σ h=>acall_nil_sl c_qfk rfl (hx σ h) (he σ h)
 rw[hcl]at hcall
 have hcc:=fun o o'=>hcall (stG bc cols S ep (G.map grpA) off o o') rfl
 have hm:G.length+1≤most:=by unfold most;omega
 have hg:S[off]=a:=by
  have:=List.getElem?_eq_getElem hlt
  rw[ha]at this;exact (Option.some.inj this).symm
 generalize (S.drop off).take k=X at *
 have hXl:X.length=k:=hlen
 subst hXl
 have h0:(0:Nat) < X.length:=by omega
 simp[stG]at hcc
 simp[r_row_Groups_0,q_row_Groups_0p,q_row_Groups_0,putEnv,runRound,roundOver,hlt,hg,h0,ht,hcc,append,hm,stG,envG]
end Go.AM
end
section
namespace Go.AM
open P
set_option maxHeartbeats 8000000
set_option maxRecDepth 8000
attribute [local simp] condRun_if when_if
theorem takeWhile_at{α:Type}{p:α→Bool}:∀ {l:List α} {k:Nat} {y:α},l[k]?=some y→k < (l.takeWhile p).length→p y=true
 | [],k,y,h,_=>by simp at h
 | a::l,0,y,h,hk=>by
  simp at h;subst h
  by_cases hp:p a=true
  ·exact hp
  ·simp[List.takeWhile_cons,hp]at hk
 | a::l,k+1,y,h,hk=>by
  by_cases hp:p a=true
  ·rw[List.takeWhile_cons,if_pos hp]at hk
   exact takeWhile_at (l:=l) (k:=k) (by simpa using h) (by simpa using hk)
  ·simp[List.takeWhile_cons,hp]at hk
theorem takeWhile_end{α:Type}{p:α→Bool}:∀ {l:List α} {y:α},l[(l.takeWhile p).length]?=some y→p y=false
 | [],y,h=>by simp at h
 | a::l,y,h=>by
  by_cases hp:p a=true
  ·rw[List.takeWhile_cons,if_pos hp]at h
   exact takeWhile_end (l:=l) (by simpa using h)
  ·have hp':p a=false:=by simpa using hp
   rw[List.takeWhile_cons,if_neg hp]at h
   simp at h;subst h;exact hp'
abbrev yG(b bc:Bool)(rs:List (List Val))(cols:List Int):AVal:=.yld 6 63 (envG b bc rs cols)
theorem inner_G(b bc:Bool)(rs:List (List Val))(cols:List Int)(S:List (List Val))(ep:Nat)(C:List AVal)(off:Nat)(a:List Val)(t:List (List Val))(hS:S.drop off=a::t)(hn:S.length≤8000)
  (hc:cols.length≤16) (hr:∀ r∈S,∀ c∈cols,0≤c∧c < r.length) :
  rounds code 7 [5] l_qfg_0 ⟨[yG b bc rs cols,.ptr 4 0 0 0,.ptr 5 0 0 0,.int .i64 1,.bool true,.any,.any],stG bc cols S ep C off (.pend false none) []⟩ =
   some (.ext 2,⟨[yG b bc rs cols,.ptr 4 0 0 0,.ptr 5 0 0 0,.int .i64 (((t.takeWhile (alikeG cols a)).length:Int)+1),.bool true,.bool false,.any],stG bc cols S ep C off (.pend false none) []⟩):=by
 have hlen:(S.drop off).length=t.length+1:=by rw[hS];rfl
 rw[List.length_drop]at hlen
 have hlt:off < S.length:=by omega
 have ha:S[off]?=some a:=by
  have:=congrArg (·[0]?) hS
  simpa using this
 have haS:a∈S:=List.mem_of_getElem? ha
 have hm:∀ k y,t[k]?=some y→S[off+(k+1)]?=some y:=fun k y h=>by
  have:=congrArg (·[k+1]?) hS
  simp at this
  rw[this,h]
 have hal:∀ y∈S,∀ tt bc,pcall I.qes [rowX a,rowX y,.cptr tt (.imm bc (intC cols)) 0]=some (.bool (alikeG cols a y)):=fun y hy tt bc=>Groups2_v tt bc cols a y hc (hr a haS) (hr y hy)
 have hle:(t.takeWhile (alikeG cols a)).length≤t.length:=by
  have:=List.takeWhile_prefix (l:=t) (alikeG cols a)
  exact this.length_le
 have e0:S.length - off=t.length+1:=hlen
 have hgoff:∀ h:off < S.length,S[off]'h=a:=fun h=>by
  have:=List.getElem?_eq_getElem h
  rw[ha]at this;exact (Option.some.inj this).symm
 have h:=rounds_iter (base:=7) (clr:=[5]) (b:=l_qfg_0) (fun k=>⟨[yG b bc rs cols,.ptr 4 0 0 0,.ptr 5 0 0 0,.int .i64 ((k:Int)+1),.bool true,.any,.any],stG bc cols S ep C off (.pend false none) []⟩) (t.takeWhile (alikeG cols a)).length
  (.ext 2,⟨[yG b bc rs cols,.ptr 4 0 0 0,.ptr 5 0 0 0,.int .i64 (((t.takeWhile (alikeG cols a)).length:Int)+1),.bool true,.bool false,.any],stG bc cols S ep C off (.pend false none) []⟩)
  (fun k hk=>by
   have hkt:k < t.length:=by omega
   have hy:=List.getElem?_eq_getElem hkt
   have hyS:=hm k _ hy
   have hp:=takeWhile_at hy hk
   have hmem:t[k]∈S:=List.mem_of_getElem? hyS
   have hal':=hal t[k] hmem
   rw[hp]at hal'
   have i1:((k:Int)+1 < (t.length:Int)+1):=by omega
   have i2:¬((k:Int)+1 < 0):=by omega
   have i3:((k:Int)+1).toNat=k+1:=by omega
   have i4:off+(k+1) < S.length:=by omega
   have i5:(0:Int)≤(k:Int)+1:=by omega
   have w:IntKind.i64.wrap ((k:Int)+1+1)=(k:Int)+1+1:=wrap64_id (by omega)
   have hg:S[off+(k+1)]'i4=t[k]:=by
    have:=List.getElem?_eq_getElem i4
    rw[hyS]at this;exact (Option.some.inj this).symm
   simp[l_qfg_0,stG,e0,i1,i2,i3,i5,hkt,hlt,i4,hgoff,hg,hal',w,roundEnd_same])
  (by
   by_cases hend:(t.takeWhile (alikeG cols a)).length=t.length
   ·rw[hend]
    simp[l_qfg_0,stG,e0]
   ·have hkt:(t.takeWhile (alikeG cols a)).length < t.length:=by omega
    have hy:=List.getElem?_eq_getElem hkt
    have hyS:=hm _ _ hy
    have hp:=takeWhile_end hy
    generalize (t.takeWhile (alikeG cols a)).length=k at *
    have hmem:t[k]∈S:=List.mem_of_getElem? hyS
    have hal':=hal t[k] hmem
    rw[hp]at hal'
    have i1:((k:Int)+1 < (t.length:Int)+1):=by omega
    have i3:((k:Int)+1).toNat=k+1:=by omega
    have i4:off+(k+1) < S.length:=by omega
    have i5:(0:Int)≤(k:Int)+1:=by omega
    have hg:S[off+(k+1)]'i4=t[k]:=by
     have:=List.getElem?_eq_getElem i4
     rw[hyS]at this;exact (Option.some.inj this).symm
    simp[l_qfg_0,stG,e0,i1,i3,i5,hkt,hlt,i4,hgoff,hg,hal'])
 simpa using h
end Go.AM
end
section
namespace Go.AM
open P
set_option maxHeartbeats 8000000
set_option maxRecDepth 8000
attribute [local simp] condRun_if when_if
def runsG(cols:List Int):Nat→List (List Val)→List (List Val×List (List Val))
 | 0,_=>[]
 | _+1,[]=>[]
 | n+1,a::t=>(takeR a cols,a::t.takeWhile (alikeG cols a))::runsG cols n (t.dropWhile (alikeG cols a))
theorem fz_yld(fl top:Bool)(base:Nat)(σ:Store)(n l s:Nat)(e:List AVal):fz fl top base σ (n+1) (.yld l s e)=if (decide (l < base)&&top)=true then .yld l s (e.map (fz fl top base σ n)) else .any:=by
 simp only[fz]
theorem outer_G(b bc:Bool)(rs:List (List Val))(cols:List Int)(S:List (List Val))(hn:S.length≤8000)(hc:cols.length≤16)(hr:∀ r∈S,∀ c∈cols,0≤c∧c < r.length) :
  ∀ (n off ep:Nat) (G:List (List Val×List (List Val))),off≤S.length→S.length - off≤n→G.length≤off→∃ ep',
  rounds code 7 [3,4,5,6] l_qfg_1 ⟨[yG b bc rs cols,.ptr 4 0 0 0,.ptr 5 0 0 0,.any,.any,.any,.any],stG bc cols S ep (G.map grpA) off (.pend false none) []⟩ =
   some (.ext 0,⟨[yG b bc rs cols,.ptr 4 0 0 0,.ptr 5 0 0 0,.any,.bool false,.any,.any],stG bc cols S ep' ((G++runsG cols n (S.drop off)).map grpA) S.length (.pend false none) []⟩):=by
 intro n
 induction n with
 | zero=>
  intro off ep G h1 h2 h3
  obtain rfl:off=S.length:=by omega
  refine ⟨ep,?_⟩
  rw[rounds_go]
  simp[l_qfg_1,stG,runsG]
 | succ n ih=>
  intro off ep G h1 h2 h3
  cases hS:S.drop off with
  | nil=>
   have:S.length - off=0:=by have:=congrArg List.length hS;simpa using this
   obtain rfl:off=S.length:=by omega
   refine ⟨ep,?_⟩
   rw[rounds_go]
   simp[l_qfg_1,stG,runsG]
  | cons a t=>
   have hlen:(S.drop off).length=t.length+1:=by rw[hS];rfl
   rw[List.length_drop]at hlen
   have hlt:off < S.length:=by omega
   have ha:S[off]?=some a:=by
    have:=congrArg (·[0]?) hS
    simpa using this
   have haS:a∈S:=List.mem_of_getElem? ha
   have hi:=inner_G b bc rs cols S ep (G.map grpA) off a t hS hn hc hr
   have hle:(t.takeWhile (alikeG cols a)).length≤t.length:=(List.takeWhile_prefix (l:=t) (alikeG cols a)).length_le
   have hR:=round_G b bc rs cols S ep G off ((t.takeWhile (alikeG cols a)).length+1) a (by omega) (by omega) ha hn (by omega) hc (hr a haS)
   have hX:(S.drop off).take ((t.takeWhile (alikeG cols a)).length+1)=a::t.takeWhile (alikeG cols a):=by
    rw[hS,List.take_succ_cons]
    congr 1
    have:=List.takeWhile_prefix (l:=t) (alikeG cols a)
    exact (List.prefix_iff_eq_take.1 this).symm
   have hD:S.drop (off+((t.takeWhile (alikeG cols a)).length+1))=t.dropWhile (alikeG cols a):=by
    rw[← List.drop_drop,hS,List.drop_succ_cons]
    have e:=List.takeWhile_append_dropWhile (p:=alikeG cols a) (l:=t)
    generalize List.takeWhile (alikeG cols a) t=A at *
    generalize List.dropWhile (alikeG cols a) t=B at *
    rw[← e,List.drop_left]
   rw[hX]at hR
   obtain ⟨ep',hind⟩:=ih (off+((t.takeWhile (alikeG cols a)).length+1)) (ep+1) (G++[(takeR a cols,a::t.takeWhile (alikeG cols a))]) (by omega) (by omega) (by simp;omega)
   rw[hD]at hind
   refine ⟨ep',?_⟩
   have hfin:(G++runsG cols (n+1) (a::t)).map grpA=((G++[(takeR a cols,a::t.takeWhile (alikeG cols a))])++runsG cols n (t.dropWhile (alikeG cols a))).map grpA:=by
    simp[runsG]
   rw[hfin,← hind,rounds_go]
   have hXl:(a::t.takeWhile (alikeG cols a)).length=(t.takeWhile (alikeG cols a)).length+1:=rfl
   generalize a::t.takeWhile (alikeG cols a)=X at *
   generalize (t.takeWhile (alikeG cols a)).length=m at *
   have e0:S.length - off=t.length+1:=hlen
   have i1:((0:Int) < (t.length:Int)+1):=by omega
   have i2:¬((m:Int)+1 < 0):=by omega
   have i3:((m:Int)+1).toNat=m+1:=by omega
   have i5:(0:Int)≤(m:Int)+1:=by omega
   have i6:(m:Int)+1≤(t.length:Int)+1:=by omega
   have i7:m+1≤t.length+1:=by omega
   have i8:t.length+1 - (m+1)=S.length - (off+(m+1)):=by omega
   simp only[stG,e0,List.length_map,List.length_append,List.length_cons,List.length_nil,Nat.zero_add]at hi hR
   simp only[envG,List.cons_append,List.nil_append]at hR
   have htk:(X.map rowX).take (m+1)=X.map rowX:=List.take_of_length_le (by simp[hXl])
   have hnx:∀ fl top base σ n,(∀ y,y∈X.map rowX→ncells (fz fl top base σ (n+3) y)=ncells y)↔True:=fun fl top base σ n=>⟨fun _=>trivial,fun _ y hy=>by
    obtain ⟨r,_,rfl⟩:=List.mem_map.1 hy
    simp⟩
   simp[l_qfg_1,stG,e0,i1,i2,i3,i5,i6,i7,hi,hR,pendAt,roundEnd,freezeObj,fz_yld,grpA,hXl,i8,htk,hnx,-List.mem_map]
   rfl
end Go.AM
end
section
namespace Go.AM
open P
set_option maxHeartbeats 8000000
set_option maxRecDepth 8000
attribute [local simp] condRun_if when_if
def groupsF(cols:List Int)(rs:List (List Val)):List (List Val×List (List Val)):=runsG cols rs.length (sortC (cmpG cols) rs)
theorem runs_call(x y:AVal)(hx:ncells x=1∧isAgg x=false)(hy:ncells y=1∧isAgg y=false)(σ:Store):acall code I.qff [x,y] σ=some (.fn 145 [] [.ptr σ.length 0 0 0,.ptr (σ.length+1) 0 0 0],σ++[.arr 1 0 [x],.arr 1 0 [y]]):=by
 rw[acall_keep c_qff rfl]
 simp[f_qff,b_qff,hx,hy]
theorem runsG_len(cols:List Int):∀ (n:Nat) (S:List (List Val)),(runsG cols n S).length≤S.length
 | 0,_=>Nat.zero_le _
 | n+1,[]=>Nat.le_refl _
 | n+1,a::t=>by
  have h1:=runsG_len cols n (t.dropWhile (alikeG cols a))
  have h2:(t.dropWhile (alikeG cols a)).length≤t.length:=(List.dropWhile_suffix (l:=t) (alikeG cols a)).length_le
  simp only[runsG,List.length_cons];omega
theorem groupsF_len(cols:List Int)(rs:List (List Val)):(groupsF cols rs).length≤rs.length:=by
 have:=runsG_len cols rs.length (sortC (cmpG cols) rs)
 rw[sortC_length]at this
 exact this
theorem Groups_v(b bc:Bool)(rs:List (List Val))(cols:List Int)(hn:rs.length≤8000)(hr:∀ r∈rs,okR r=true)(hh:∀ r∈rs,hasC r cols=true)(hc:cols.length≤16)(h0:∀ c∈cols,0≤c) :
  pcall I.qeq [.imm b (rs.map rowX),.imm bc (intC cols)]=some (.tup [.imm false ((groupsF cols rs).map grpA),.int .i64 0]):=by
 rw[pcall_eq c_qeq rfl]
 have hm:rs.length≤most:=by unfold most;omega
 have h1:=fun b bc=>asked_ok b bc rs cols hn hr hc h0 hh
 have h2:=fun b=>copies_X b rs hm hr
 have hin:∀ r∈rs,∀ c∈cols,0≤c∧c < r.length:=fun r h=>(hasC_in (hh r h)).2
 have hl:∀ r∈rs,r.length≤most:=fun r h=>by
  have:=okR_len (hr r h);unfold most;omega
 have h3:=sortG_spec hm (cmpG cols) (.fn 66 [] [.ptr 0 0 0 0]) 66 [.cptr true (.imm bc (intC cols)) 0] (cmpG_ok cols) (fun r q h=>cmpG_zero h) (cmpG_range cols)
  (σ:=[.arr 1 0 [.imm bc (intC cols)],.arr 1 0 (rs.map rowX)]) (id:=1) (ep:=0) rfl (by simp) (fun r h1 q h2=>by
   have:=Groups1_v true bc cols r q hc (hl r h1) (hin r h1) (hin q h2)
   simp[this])
 have hS:∀ r∈sortC (cmpG cols) rs,r∈rs:=fun r h=>(sortC_perm rs).mem_iff.1 h
 have hSl:=sortC_length (cmpG cols) rs
 obtain ⟨ep',h4⟩:=outer_G b bc rs cols (sortC (cmpG cols) rs) (by rw[hSl];exact hn) hc (fun r h=>hin r (hS r h)) rs.length 0 0 [] (Nat.zero_le _) (by rw[hSl];omega) (Nat.zero_le _)
 simp only[List.drop_zero,List.nil_append,List.map_nil]at h4
 have hG:runsG cols rs.length (sortC (cmpG cols) rs)=groupsF cols rs:=rfl
 rw[hG]at h4
 have hGl:=groupsF_len cols rs
 have hrun:∀ σ:Store,acall code 64 [.sl 1 0 0 rs.length,.fn 65 [] [.ptr 0 0 0 0]] σ=some (.fn 145 [] [.ptr σ.length 0 0 0,.ptr (σ.length+1) 0 0 0],σ++[.arr 1 0 [.sl 1 0 0 rs.length],.arr 1 0 [.fn 65 [] [.ptr 0 0 0 0]]]):=fun σ=>runs_call _ _ ⟨rfl,rfl⟩ ⟨rfl,rfl⟩ σ
 have hit:acall code 145 [yG b bc rs cols,.ptr 4 0 0 0,.ptr 5 0 0 0] (stG bc cols (sortC (cmpG cols) rs) 0 [] 0 (.pend false none) []) =
   some (.tup [],stG bc cols (sortC (cmpG cols) rs) ep' ((groupsF cols rs).map grpA) (sortC (cmpG cols) rs).length (.pend false none) []):=by
  rw[acall_keep c_qfg rfl]
  simp[f_qfg,b_qfg,h4]
 rw[hSl]at hit
 generalize groupsF cols rs=G at *
 generalize sortC (cmpG cols) rs=S at *
 simp[yG,envG,stG,hSl]at hit h3
 simp[f_qeq,b_qeq,h1,h2,h3,hrun,hit,jumped]
 rintro _ x y _ rfl
 simp[grpA]
end Go.AM
end
section
namespace Go.AM
open P
set_option maxHeartbeats 4000000
set_option maxRecDepth 8000
attribute [local simp] condRun_if when_if
def intVal(n:Int):Val:=⟨2,n,0,[]⟩
def boolVal(b:Bool):Val:=⟨1,if b then 1 else 0,0,[]⟩
@[simp] theorem Check_v(k n u:Int)(s:List UInt8):pcall I.qgs [.agg [.int .i64 k,.int .i64 n,.int .u64 u,.str s]]=some (.int .i64 (if okV ⟨k,n,u,s⟩ then 0 else 120)):=Check_spec ⟨k,n,u,s⟩
@[simp] theorem Plain_v(k n u:Int)(s:List UInt8):pcall I.qhe [.agg [.int .i64 k,.int .i64 n,.int .u64 u,.str s]]=some (.bool (plainV ⟨k,n,u,s⟩)):=Plain_spec ⟨k,n,u,s⟩
@[simp] theorem Null_v:pcall I.qhb []=some zeroV.a:=by
 rw[pcall_eq c_qhb rfl]
 simp[f_qhb,b_qhb,Val.a,zeroV]
@[simp] theorem Int_v(n:Int):pcall I.qgw [.int .i64 n]=some (intVal n).a:=by
 rw[pcall_eq c_qgw rfl]
 simp[f_qgw,b_qgw,Val.a,intVal]
@[simp] theorem Bool_v(b:Bool):pcall I.qgr [.bool b]=some (boolVal b).a:=by
 rw[pcall_eq c_qgr rfl]
 cases b<;>simp[f_qgr,b_qgr,Val.a,boolVal]
def outI:Option AVal→Int×Bool
 | some (.tup [.int _ n,.bool b])=>(n,b)
 | _=>(0,false)
theorem outI_eq{r:Option AVal}(h:∃ n b,r=some (.tup [.int .i64 n,.bool b])):r=some (.tup [.int .i64 (outI r).1,.bool (outI r).2]):=by
 obtain ⟨n,b,rfl⟩:=h;rfl
noncomputable def termF(f:Nat)(n m:Int):Int×Bool:=outI (pcall f [.int .i64 n,.int .i64 m])
@[simp] theorem Add1_v(n m:Int):pcall I.qb [.int .i64 n,.int .i64 m]=some (.tup [.int .i64 (termF I.qb n m).1,.bool (termF I.qb n m).2]):=
 outI_eq ⟨_,_,by rw[pcall_eq c_qb rfl];simp[f_qb,b_qb,intBits];exact ⟨rfl,rfl⟩⟩
@[simp] theorem Sub1_v(n m:Int):pcall I.ql [.int .i64 n,.int .i64 m]=some (.tup [.int .i64 (termF I.ql n m).1,.bool (termF I.ql n m).2]):=
 outI_eq ⟨_,_,by rw[pcall_eq c_ql rfl];simp[f_ql,b_ql,intBits];exact ⟨rfl,rfl⟩⟩
end Go.AM
end
section
namespace Go.AM
open P
set_option maxHeartbeats 2000000
set_option maxRecDepth 4000
def areF(kind:Int)(l:List Val):Int:=if l.all okV then (if l.all fun v=>v.k == 0 || v.k == kind then 0 else 2) else 120
def areG(kind:Int)(_:Nat)(v:Val)(e:Int):Int⊕Unit:=if okV v then .inl (if v.k == 0 || v.k == kind then e else 2) else .inr ()
theorem are_fold(kind:Int):∀ (m:List Val) k (e:Int),foldL (areG kind) m k e=if m.all okV then .inl (if m.all fun v=>v.k == 0 || v.k == kind then e else 2) else .inr ()
 | [],_,_=>rfl
 | a::m,k,e=>by
  cases ho:okV a<;>cases hk:(a.k == 0 || a.k == kind)<;>simp only[foldL,areG,ho,hk,are_fold kind m,List.all_cons]<;>simp<;>intros<;>(split<;>rfl)
theorem are_spec(kind:Int)(b:Bool)(l:List Val)(hn:l.length≤most):pcall I.qn [.int .i64 kind,.imm b (l.map Val.a)]=some (.int .i64 (areF kind l)):=by
 rw[pcall_eq c_qn rfl]
 have h:=rounds_list (base:=0) (clr:=[2,4,8,9,10]) (b:=l_qn_0) l
  (fun k (e:Int)=>⟨[.int .i64 kind,.imm b (l.map Val.a),.any,.int .i64 e,.any,.imm b (l.map Val.a),.int .i64 l.length,.int .i64 k,.any,.any,.any],[]⟩) (fun _ _=>True)
  (areG kind)
  (fun e=>(.ext 0,⟨[.int .i64 kind,.imm b (l.map Val.a),.any,.int .i64 e,.any,.imm b (l.map Val.a),.int .i64 l.length,.int .i64 l.length,.bool false,.any,.any],[]⟩))
  (fun (_:Unit) o=>∃ s,o=(.ret,s)∧thenLeave .pure [.env 2] (some (.ret,s))=some (.int .i64 120))
  (fun k v e hk hv _=>by
   have hlt:((k:Int) < (l.length:Int)):=by omega
   unfold areG
   cases ho:okV v
   ·exact ⟨_,by simp[l_qn_0,hlt,hv,ho,Val.a,areG];rfl,_,rfl,by simp⟩
   ·cases h0:v.k == 0<;>cases h1:v.k == kind<;>simp[l_qn_0,areG,hlt,hv,ho,Val.a,bne_not,h0,h1,wrap_lt hk hn,roundEnd])
  (fun e _=>by simp[l_qn_0]) 0 trivial
 rw[are_fold]at h
 unfold areF
 cases ha:l.all okV<;>simp only[ha]at h
 ·obtain ⟨_,h1,s,rfl,h2⟩:=h
  simp at h1
  simp[f_qn,b_qn,h1,-thenLeave_ret]
  exact h2
 ·have h1:=h.2
  simp at h1
  simp[f_qn,b_qn,h1]
end Go.AM
end
section
namespace Go.AM
open P
set_option maxHeartbeats 4000000
set_option maxRecDepth 8000
attribute [local simp] condRun_if when_if
def rg(n:Int):Prop:=-9223372036854775808≤n∧n < 9223372036854775808
def rgU(n:Int):Prop:=0≤n∧n < 18446744073709551616
theorem wrap_rg(n:Int):rg (IntKind.i64.wrap n):=by
 unfold rg
 simp[IntKind.wrap,IntKind.bits,IntKind.signed];split<;>omega
theorem outI_rg{r:Option AVal}(h:∃ n b,r=some (.tup [.int .i64 n,.bool b])∧rg n):rg (outI r).1:=by
 obtain ⟨n,b,rfl,h⟩:=h;exact h
theorem term_add(n m:Int):rg (termF I.qb n m).1:=
 outI_rg ⟨_,_,by rw[pcall_eq c_qb rfl];simp[f_qb,b_qb,intBits];first|exact ⟨rfl,rfl⟩|exact rfl,wrap_rg _⟩
theorem term_sub(n m:Int):rg (termF I.ql n m).1:=
 outI_rg ⟨_,_,by rw[pcall_eq c_ql rfl];simp[f_ql,b_ql,intBits];first|exact ⟨rfl,rfl⟩|exact rfl,wrap_rg _⟩
@[simp] theorem size_v(n:Int):∃ u,pcall I.qr [.int .i64 n]=some (.int .u64 u):=by
 rw[pcall_eq c_qr rfl]
 by_cases h:n < 0
 ·exact ⟨_,by simp[f_qr,b_qr,h];rfl⟩
 ·exact ⟨_,by simp[f_qr,b_qr,h];rfl⟩
theorem signed_v(u:Int)(b:Bool):∃ n t,pcall I.qq [.int .u64 u,.bool b]=some (.tup [.int .i64 n,.bool t])∧rg n:=by
 rw[pcall_eq c_qq rfl]
 cases b
 ·exact ⟨_,_,by simp[f_qq,b_qq];first|exact ⟨rfl,rfl⟩|exact rfl,wrap_rg _⟩
 ·exact ⟨_,_,by simp[f_qq,b_qq];first|exact ⟨rfl,rfl⟩|exact rfl,wrap_rg _⟩
theorem Mul64_v(a b:Int):∃ n t,pcall I.qds [.int .u64 a,.int .u64 b]=some (.tup [.int .u64 n,.int .u64 t]):=by
 rw[pcall_eq c_qds rfl]
 exact ⟨_,_,by simp[f_qds,b_qds,intBits,shift];exact ⟨rfl,rfl⟩⟩
theorem Mul1_ex(n m:Int):∃ x b,pcall I.qi [.int .i64 n,.int .i64 m]=some (.tup [.int .i64 x,.bool b])∧rg x:=by
 rw[pcall_eq c_qi rfl]
 obtain ⟨a,ha⟩:=size_v n
 obtain ⟨b,hb⟩:=size_v m
 obtain ⟨c,d,hc⟩:=Mul64_v a b
 obtain ⟨x,t,hs,hr⟩:=signed_v d (decide (n < 0) != decide (m < 0))
 simp[bne]at hs
 cases t
 ·exact ⟨_,_,by simp[f_qi,b_qi,ha,hb,hc,hs,bne];first|exact ⟨rfl,rfl⟩|exact rfl,hr⟩
 ·exact ⟨_,_,by simp[f_qi,b_qi,ha,hb,hc,hs,bne];first|exact ⟨rfl,rfl⟩|exact rfl,hr⟩
@[simp] theorem Mul1_v(n m:Int):pcall I.qi [.int .i64 n,.int .i64 m]=some (.tup [.int .i64 (termF I.qi n m).1,.bool (termF I.qi n m).2]):=
 let ⟨x,b,h,_⟩:=Mul1_ex n m;outI_eq ⟨x,b,h⟩
theorem term_mul(n m:Int):rg (termF I.qi n m).1:=outI_rg (Mul1_ex n m)
theorem size_nz(n:Int)(h:n≠0)(hr:rg n):∃ u,pcall I.qr [.int .i64 n]=some (.int .u64 u)∧u≠0:=by
 rw[pcall_eq c_qr rfl]
 unfold rg at hr
 by_cases h:n < 0
 ·exact ⟨_,by simp[f_qr,b_qr,h];rfl,by simp[IntKind.wrap,IntKind.bits,IntKind.signed];omega⟩
 ·exact ⟨_,by simp[f_qr,b_qr,h];rfl,by simp[IntKind.wrap,IntKind.bits,IntKind.signed];omega⟩
theorem Div1_ex(n m:Int)(hm:rg m):∃ x b,pcall I.qe [.int .i64 n,.int .i64 m]=some (.tup [.int .i64 x,.bool b])∧rg x:=by
 rw[pcall_eq c_qe rfl]
 by_cases h:m=0
 ·subst h
  exact ⟨_,_,by simp[f_qe,b_qe];first|exact ⟨rfl,rfl⟩|exact rfl,by simp[rg]⟩
 ·obtain ⟨a,ha⟩:=size_v n
  obtain ⟨b,hb,hb0⟩:=size_nz m h hm
  obtain ⟨x,t,hs,hr⟩:=signed_v (IntKind.u64.wrap (a.tdiv b)) (decide (n < 0) != decide (m < 0))
  simp[bne]at hs
  exact ⟨_,_,by simp[f_qe,b_qe,beq_f h,ha,hb,hb0,bne,hs];first|exact ⟨rfl,rfl⟩|exact rfl,hr⟩
theorem Div1_v(n m:Int)(hm:rg m):pcall I.qe [.int .i64 n,.int .i64 m]=some (.tup [.int .i64 (termF I.qe n m).1,.bool (termF I.qe n m).2]):=
 let ⟨x,b,h,_⟩:=Div1_ex n m hm;outI_eq ⟨x,b,h⟩
theorem term_div(n m:Int)(hm:rg m):rg (termF I.qe n m).1:=outI_rg (Div1_ex n m hm)
def doF(to:Int→Int→Int×Bool)(a b:Val):Val×Int:=
 if areF 2 [a,b]=0 then (if a.k=0∨b.k=0 then (zeroV,0) else if (to a.n b.n).2 then (intVal (to a.n b.n).1,0) else (zeroV,140)) else (zeroV,areF 2 [a,b])
theorem are2(kind:Int)(b:Bool)(v w:Val):pcall I.qn [.int .i64 kind,.imm b [v.a,w.a]]=some (.int .i64 (areF kind [v,w])):=are_spec kind b [v,w] (by simp[most])
theorem are1(kind:Int)(b:Bool)(v:Val):pcall I.qn [.int .i64 kind,.imm b [v.a]]=some (.int .i64 (areF kind [v])):=are_spec kind b [v] (by simp[most])
theorem do_v(f:Nat)(hp:PureAt f)(to:Int→Int→Int×Bool)(a b:Val)(hf:pcall f [.int .i64 a.n,.int .i64 b.n]=some (.tup [.int .i64 (to a.n b.n).1,.bool (to a.n b.n).2])) :
  pcall I.qo [a.a,b.a,.fn f [] []]=some (.tup [(doF to a b).1.a,.int .i64 (doF to a b).2]):=by
 rw[pcall_eq c_qo rfl]
 have h1:=fun t=>are2 2 t a b
 obtain ⟨k,n,u,s⟩:=a
 obtain ⟨k',n',u',s'⟩:=b
 simp only[a_mk]at *
 unfold doF
 by_cases h0:areF 2 [⟨k,n,u,s⟩,⟨k',n',u',s'⟩]=0
 ·rw[h0]at h1 ⊢
  by_cases hk:k=0
  ·subst hk;simp[f_qo,b_qo,h1,zeroV,a_mk]
  ·by_cases hk':k'=0
   ·subst hk';simp[f_qo,b_qo,h1,beq_f hk,hk,zeroV,a_mk]
   ·rcases hr:to n n' with ⟨m,t⟩
    rw[hr]at hf
    cases t<;>simp[f_qo,b_qo,h1,beq_f hk,beq_f hk',hk,hk',hr,hp _ _,hf,zeroV,a_mk,intVal]
 ·simp[f_qo,b_qo,h1,h0,bne_t h0,zeroV,a_mk]
theorem Add_v(a b:Val):pcall I.qa [a.a,b.a]=some (.tup [(doF (termF I.qb) a b).1.a,.int .i64 (doF (termF I.qb) a b).2]):=by
 rw[pcall_eq c_qa rfl]
 have h:=do_v I.qb a_qb (termF I.qb) a b (Add1_v _ _)
 simp only[Val.a]at *
 simp[f_qa,b_qa,h]
theorem Sub_v(a b:Val):pcall I.qk [a.a,b.a]=some (.tup [(doF (termF I.ql) a b).1.a,.int .i64 (doF (termF I.ql) a b).2]):=by
 rw[pcall_eq c_qk rfl]
 have h:=do_v I.ql a_ql (termF I.ql) a b (Sub1_v _ _)
 simp only[Val.a]at *
 simp[f_qk,b_qk,h]
theorem Mul_v(a b:Val):pcall I.qh [a.a,b.a]=some (.tup [(doF (termF I.qi) a b).1.a,.int .i64 (doF (termF I.qi) a b).2]):=by
 rw[pcall_eq c_qh rfl]
 have h:=do_v I.qi a_qi (termF I.qi) a b (Mul1_v _ _)
 simp only[Val.a]at *
 simp[f_qh,b_qh,h]
theorem Div_v(a b:Val)(hb:rg b.n):pcall I.qd [a.a,b.a]=some (.tup [(doF (termF I.qe) a b).1.a,.int .i64 (doF (termF I.qe) a b).2]):=by
 rw[pcall_eq c_qd rfl]
 have h:=do_v I.qe a_qe (termF I.qe) a b (Div1_v _ _ hb)
 simp only[Val.a]at *
 simp[f_qd,b_qd,h]
theorem Neg_v(a:Val):pcall I.qj [a.a]=some (.tup [(doF (termF I.ql) (intVal 0) a).1.a,.int .i64 (doF (termF I.ql) (intVal 0) a).2]):=by
 rw[pcall_eq c_qj rfl]
 have h:=Sub_v (intVal 0) a
 simp only[Val.a]at *
 simp[f_qj,b_qj,h,Val.a]
end Go.AM
end
section
namespace Go.AM
open P
set_option maxHeartbeats 4000000
set_option maxRecDepth 8000
attribute [local simp] condRun_if when_if
def sumV(x:Int):Val:=⟨4,x / 18446744073709551616,x % 18446744073709551616,[]⟩
theorem okV_sum(x:Int):okV (sumV x)=true:=by simp[okV,blankV,sumV]
theorem okV_zero:okV zeroV=true:=by decide
theorem wide_v(v:Val)(h:rg v.n):pcall I.qs [v.a]=some (sumV v.n).a:=by
 rw[pcall_eq c_qs rfl]
 unfold rg at h
 have e1:v.n.fdiv 9223372036854775808=v.n / 18446744073709551616:=by
  rw[Int.fdiv_eq_ediv_of_nonneg _ (by decide)];omega
 simp only[Val.a,sumV]
 simp[f_qs,b_qs,shift,IntKind.wrap,IntKind.bits,IntKind.signed,e1]
theorem Add64_v{x y c:Int}(hx:rgU x)(hy:rgU y)(hc:0≤c∧c≤1)(σ:Store) :
  acall code I.math_bits_Add64 [.int .u64 x,.int .u64 y,.int .u64 c] σ=some (.tup [.int .u64 ((x+y+c) % 18446744073709551616),.int .u64 ((x+y+c) / 18446744073709551616)],σ):=by
 refine acall_prim good (k:=0) (n:=0) rfl ?_
 have hp:code.prims=prims:=rfl
 rw[hp]
 simp only[prims,add64]
 rw[if_pos ⟨hx.1,hx.2,hy.1,hy.2,hc.1,hc.2⟩]
theorem wrap_bv(B:BitVec 64):IntKind.i64.wrap (B.toNat:Int)=B.toInt:=by
 rw[BitVec.toInt_eq_toNat_cond]
 have:=B.isLt
 simp[IntKind.wrap,IntKind.bits,IntKind.signed]
 split<;>split<;>omega
theorem msb_ofInt{a:Int}(h:rg a):(BitVec.ofInt 64 a).msb=decide (a < 0):=by
 rw[BitVec.msb_eq_toInt,BitVec.toInt_ofInt]
 have:a.bmod (2 ^ 64)=a:=by
  unfold rg at h
  rw[Int.bmod_def];split<;>omega
 rw[this]
def xorI(a b:Int):Int:=IntKind.i64.wrap ((BitVec.ofInt 64 a ^^^ BitVec.ofInt 64 b).toNat:Int)
def andI(a b:Int):Int:=IntKind.i64.wrap ((BitVec.ofInt 64 a &&& BitVec.ofInt 64 b).toNat:Int)
theorem bits_xor(a b:Int):intBits .xor .i64 a b=some (xorI a b):=rfl
theorem bits_and(a b:Int):intBits .and .i64 a b=some (andI a b):=rfl
theorem signs{a b h:Int}(ha:rg a)(hb:rg b)(hh:rg h) :
  andI (xorI a h) (xorI b h) < 0↔((decide (a < 0) ^^ decide (h < 0))&&(decide (b < 0) ^^ decide (h < 0)))=true:=by
 unfold andI xorI
 rw[wrap_bv,wrap_bv,wrap_bv,BitVec.ofInt_toInt,BitVec.ofInt_toInt]
 have:∀ B:BitVec 64,B.toInt < 0↔B.msb=true:=fun B=>by rw[BitVec.msb_eq_toInt];simp
 rw[this,BitVec.msb_and,BitVec.msb_xor,BitVec.msb_xor,msb_ofInt ha,msb_ofInt hb,msb_ofInt hh]
def sz(x:Int):Prop:=-1267650600228229401496703205376≤x∧x≤1267650600228229401496703205376
theorem plus_v{x y:Int}(hx:sz x)(hy:sz y):pcall I.qp [(sumV x).a,(sumV y).a]=some (.tup [(sumV (x+y)).a,.int .i64 0]):=by
 rw[pcall_eq c_qp rfl]
 unfold sz at hx hy
 have h1:=Add64_v (x:=x % 18446744073709551616) (y:=y % 18446744073709551616) (c:=0) (by unfold rgU;omega) (by unfold rgU;omega) (by omega)
 have h2:=Add64_v (x:=IntKind.u64.wrap (x / 18446744073709551616)) (y:=IntKind.u64.wrap (y / 18446744073709551616)) (c:=(x % 18446744073709551616+y % 18446744073709551616) / 18446744073709551616)
  (by simp[rgU,IntKind.wrap,IntKind.bits,IntKind.signed];omega) (by simp[rgU,IntKind.wrap,IntKind.bits,IntKind.signed];omega) (by omega)
 have e:IntKind.i64.wrap ((IntKind.u64.wrap (x / 18446744073709551616)+IntKind.u64.wrap (y / 18446744073709551616)+(x % 18446744073709551616+y % 18446744073709551616) / 18446744073709551616) % 18446744073709551616)=(x+y) / 18446744073709551616:=by
  simp[IntKind.wrap,IntKind.bits,IntKind.signed];omega
 have e2:(x % 18446744073709551616+y % 18446744073709551616) % 18446744073709551616=(x+y) % 18446744073709551616:=by omega
 have h3:¬(andI (xorI (x / 18446744073709551616) ((x+y) / 18446744073709551616)) (xorI (y / 18446744073709551616) ((x+y) / 18446744073709551616)) < 0):=by
  rw[signs (by unfold rg;omega) (by unfold rg;omega) (by unfold rg;omega)]
  by_cases a:x / 18446744073709551616 < 0<;>by_cases b:y / 18446744073709551616 < 0<;>by_cases c:(x+y) / 18446744073709551616 < 0<;>simp[a,b,c]<;>omega
 simp only[Int.add_zero]at h1
 simp only[Val.a,sumV]
 simp[f_qp,b_qp,h1,h2,e,e2,bits_xor,bits_and,h3]
def stV:Option Int→Val
 | none=>zeroV
 | some x=>sumV x
theorem okV_st(s:Option Int):okV (stV s)=true:=by cases s;exact okV_zero;exact okV_sum _
def szO(s:Option Int):Prop:=sz (s.getD 0)
def addO:Option Int→Option Int→Option Int
 | none,t=>t
 | s,none=>s
 | some x,some y=>some (x+y)
def sumF(s:Option Int)(v:Val):Option Int:=if v.k=0 then s else some (s.getD 0+v.n)
def badS(v:Val):Int:=if okV v=false then 120 else if v.k=0∨v.k=2 then 0 else 2
theorem are_st(s:Option Int):areF 4 [stV s]=0:=by
 unfold areF
 cases s<;>simp[stV,okV_zero,okV_sum]<;>simp[zeroV,sumV]
theorem are_v(v:Val):areF 2 [v]=badS v:=by
 unfold areF badS
 cases h:okV v<;>simp[h]
theorem Sum_v(s:Option Int)(v:Val)(hs:szO s)(hv:rg v.n) :
  pcall I.qm [(stV s).a,v.a]=some (.tup [(if badS v=0 then stV (sumF s v) else zeroV).a,.int .i64 (badS v)]):=by
 rw[pcall_eq c_qm rfl]
 have h1:=fun b=>are1 4 b (stV s)
 have h2:=fun b=>are1 2 b v
 rw[are_st]at h1
 rw[are_v]at h2
 have h3:=wide_v v hv
 unfold badS at *
 by_cases ho:okV v=true
 ·rw[ho]at h2 ⊢
  simp only[Bool.true_eq_false,if_false]at h2 ⊢
  by_cases hk0:v.k=0
  ·simp[hk0]at h2
   unfold sumF
   rw[if_pos hk0]
   generalize stV s=S at *
   simp only[Val.a]at *
   simp[f_qm,b_qm,h1,h2,hk0]
   rw[hk0]at h2
   simp[h2]
  ·by_cases hk2:v.k=2
   ·simp[hk2]at h2
    unfold sumF
    rw[if_neg hk0]
    cases s with
    | none=>
     simp only[stV,Option.getD_none,Int.zero_add]at *
     simp only[Val.a,zeroV]at *
     rw[hk2]at h2 h3 ⊢
     simp[f_qm,b_qm,h1,h2,h3]
    | some x=>
     have h4:=plus_v (x:=x) (y:=v.n) hs (by unfold rg at hv;unfold sz;omega)
     simp only[stV,Option.getD_some]at *
     simp only[Val.a]at *
     rw[hk2]at h2 h3 ⊢
     have hx:(sumV x).k=4:=rfl
     simp only[hx]at h1 h4 ⊢
     simp[f_qm,b_qm,h1,h2,h3,h4]
   ·have hk:¬(v.k=0∨v.k=2):=by omega
    rw[if_neg hk]at h2
    generalize stV s=S at *
    simp only[Val.a,zeroV]at *
    simp[f_qm,b_qm,h1,h2,hk]
 ·have ho:okV v=false:=by simpa using ho
  rw[if_pos ho]at h2
  generalize stV s=S at *
  simp only[Val.a,zeroV]at *
  simp[f_qm,b_qm,h1,h2,ho]
theorem Join_v(s t:Option Int)(hs:szO s)(ht:szO t):pcall I.qg [(stV s).a,(stV t).a]=some (.tup [(stV (addO s t)).a,.int .i64 0]):=by
 rw[pcall_eq c_qg rfl]
 have h1:=fun b=>are2 4 b (stV s) (stV t)
 have e:areF 4 [stV s,stV t]=0:=by
  unfold areF
  cases s<;>cases t<;>simp[stV,okV_zero,okV_sum]<;>simp[zeroV,sumV]
 rw[e]at h1
 cases s with
 | none=>
  simp only[stV,addO]at *
  cases t<;>simp only[Val.a,zeroV]at *<;>simp[f_qg,b_qg,h1]
 | some x=>
  cases t with
  | none=>
   simp only[stV,addO]at *
   have hx:(sumV x).k=4:=rfl
   simp only[Val.a,zeroV,hx]at *
   simp[f_qg,b_qg,h1]
  | some y=>
   have h4:=plus_v (x:=x) (y:=y) hs ht
   simp only[stV,addO]at *
   have hx:(sumV x).k=4:=rfl
   have hy:(sumV y).k=4:=rfl
   simp only[Val.a,hx,hy]at *
   simp[f_qg,b_qg,h1,h4]
def endF:Option Int→Val×Int
 | none=>(zeroV,0)
 | some x=>if -9223372036854775808≤x∧x < 9223372036854775808 then (intVal x,0) else (zeroV,140)
theorem End_v(s:Option Int)(hs:szO s):pcall I.qf [(stV s).a]=some (.tup [(endF s).1.a,.int .i64 (endF s).2]):=by
 rw[pcall_eq c_qf rfl]
 have h1:=fun b=>are1 4 b (stV s)
 rw[are_st]at h1
 cases s with
 | none=>
  simp only[stV,endF]at *
  simp only[Val.a,zeroV]at *
  simp[f_qf,b_qf,h1]
 | some x=>
  have hx:(sumV x).k=4:=rfl
  have hr:rg (IntKind.i64.wrap (sumV x).u):=by
   unfold rg
   simp[IntKind.wrap,IntKind.bits,IntKind.signed];split<;>omega
  have h3:=wide_v (intVal (IntKind.i64.wrap (sumV x).u)) hr
  have ha:(sumV x).a=.agg [.int .i64 4,.int .i64 (x / 18446744073709551616),.int .u64 (x % 18446744073709551616),.str []]:=rfl
  simp only[stV,endF]at *
  unfold szO sz at hs
  simp only[Option.getD_some]at hs
  have e:(sumV x).u=x % 18446744073709551616:=rfl
  rw[e]at hr h3
  rw[ha]at h1 ⊢
  have hm:∀ n,IntKind.i64.wrap n=IntKind.i64.wrap n:=fun _=>rfl
  by_cases hrx:-9223372036854775808≤x∧x < 9223372036854775808
  ·have hw:IntKind.i64.wrap (x % 18446744073709551616)=x:=by
    simp[IntKind.wrap,IntKind.bits,IntKind.signed];split<;>omega
   rw[hw]at h3
   rw[if_pos hrx]
   simp only[intVal]at *
   simp only[Val.a,sumV]at *
   simp[f_qf,b_qf,h1,h3,hw,intVal,Val.a]
  ·rw[if_neg hrx]
   have hw:rg (IntKind.i64.wrap (x % 18446744073709551616)):=hr
   generalize hg:IntKind.i64.wrap (x % 18446744073709551616)=w at *
   have hxw:x≠w:=fun h=>hrx (by rw[h];exact hw)
   have hne:w / 18446744073709551616≠x / 18446744073709551616∨w % 18446744073709551616≠x % 18446744073709551616:=by omega
   simp only[intVal]at *
   simp only[Val.a,sumV]at *
   by_cases hq:w / 18446744073709551616=x / 18446744073709551616
   ·have hq2:w % 18446744073709551616≠x % 18446744073709551616:=by omega
    simp[f_qf,b_qf,h1,h3,hg,intVal,Val.a,hq,beq_f hq2,zeroV]
   ·simp[f_qf,b_qf,h1,h3,hg,intVal,Val.a,beq_f hq,zeroV]
end Go.AM
end
section
namespace Go.AM
open P
set_option maxHeartbeats 4000000
set_option maxRecDepth 8000
attribute [local simp] condRun_if when_if
def vcmpF(v w:Val):Int:=if plainV v=true∧plainV w=true then lex (icmp v.k w.k) (lex (icmp v.n w.n) (scmp v.s w.s)) else 0
theorem Or3(b:Bool)(a c d:Int):pcall I.qat [.imm b [.int .i64 a,.int .i64 c,.int .i64 d]]=some (.int .i64 (lex a (lex c d))):=by
 rw[pcall_eq c_qat rfl]
 unfold lex
 by_cases ha:a=0
 ·by_cases hc:c=0
  ·by_cases hd:d=0
   ·subst ha hc hd
    simp[f_qat,b_qat,l_qat_0,rounds_go,roundEnd,IntKind.wrap,IntKind.bits,IntKind.signed]
   ·subst ha hc
    simp[f_qat,b_qat,l_qat_0,rounds_go,roundEnd,IntKind.wrap,IntKind.bits,IntKind.signed,bne_t hd]
  ·subst ha
   simp[f_qat,b_qat,l_qat_0,rounds_go,roundEnd,IntKind.wrap,IntKind.bits,IntKind.signed,bne_t hc,hc]
 ·simp[f_qat,b_qat,l_qat_0,rounds_go,roundEnd,IntKind.wrap,IntKind.bits,IntKind.signed,bne_t ha,ha]
theorem cmpStr_v(s t:List UInt8)(σ:Store):acall code I.internal_bytealg_abigen_runtime_cmpstring [.str s,.str t] σ=some (.int .i64 (scmp s t),σ):=by
 refine acall_prim good (k:=3) (n:=0) rfl ?_
 have hp:code.prims=prims:=rfl
 rw[hp]
 simp only[prims,cmpString,scmp]
 by_cases h1:Op.bytesLess s t=true
 ·simp[h1]
 ·by_cases h2:s=t
  ·subst h2;simp[h1]
  ·simp[h1,h2]
theorem CompareS_v(s t:List UInt8):pcall I.qdr [.str s,.str t]=some (.int .i64 (scmp s t)):=by
 rw[pcall_eq c_qdr rfl]
 simp[f_qdr,b_qdr,cmpStr_v]
theorem sCompare_v(s t:List UInt8):pcall I.qgo [.str s,.str t]=some (.int .i64 (scmp s t)):=by
 rw[pcall_eq c_qgo rfl]
 simp[f_qgo,b_qgo,CompareS_v]
theorem vCompare_v(v w:Val):pcall I.qgt [v.a,w.a]=some (.int .i64 (vcmpF v w)):=by
 rw[pcall_eq c_qgt rfl]
 obtain ⟨k,n,u,s⟩:=v
 obtain ⟨k',n',u',s'⟩:=w
 simp only[a_mk]
 unfold vcmpF
 cases h1:plainV ⟨k,n,u,s⟩<;>cases h2:plainV ⟨k',n',u',s'⟩<;>simp[f_qgt,b_qgt,h1,h2,Compare_k,Compare_n,sCompare_v,Or3]
theorem right1_v(b:Bool)(v:Val):pcall I.qhj [.imm b [v.a]]=some (.int .i64 (if okV v then 0 else 120)):=by
 rw[pcall_eq c_qhj rfl]
 obtain ⟨k,n,u,s⟩:=v
 simp only[a_mk]
 cases h1:okV ⟨k,n,u,s⟩<;>simp[f_qhj,b_qhj,l_qhj_0,rounds_go,roundEnd,IntKind.wrap,IntKind.bits,IntKind.signed,h1]
theorem right2_v(b:Bool)(v w:Val):pcall I.qhj [.imm b [v.a,w.a]]=some (.int .i64 (if okV v&&okV w then 0 else 120)):=by
 rw[pcall_eq c_qhj rfl]
 obtain ⟨k,n,u,s⟩:=v
 obtain ⟨k',n',u',s'⟩:=w
 simp only[a_mk]
 cases h1:okV ⟨k,n,u,s⟩<;>cases h2:okV ⟨k',n',u',s'⟩<;>simp[f_qhj,b_qhj,l_qhj_0,rounds_go,roundEnd,IntKind.wrap,IntKind.bits,IntKind.signed,h1,h2]
def heldF(is:Int→Bool)(v w:Val):Val×Int:=
 if (okV v&&okV w)=false then (zeroV,120) else if v.k=4∨w.k=4∨v.k≠0∧w.k≠0∧v.k≠w.k then (zeroV,2) else if v.k=0∨w.k=0 then (zeroV,0) else (boolVal (is (vcmpF v w)),0)
theorem held_v(f:Nat)(hp:PureAt f)(is:Int→Bool)(v w:Val)(hf:∀ c,pcall f [.int .i64 c]=some (.bool (is c))) :
  pcall I.qhh [v.a,w.a,.fn f [] []]=some (.tup [(heldF is v w).1.a,.int .i64 (heldF is v w).2]):=by
 rw[pcall_eq c_qhh rfl]
 have h1:=fun b=>right2_v b v w
 have h2:=vCompare_v v w
 unfold heldF
 cases ho:(okV v&&okV w)
 ·rw[ho]at h1
  simp only[Val.a,zeroV]at *
  simp[f_qhh,b_qhh,h1]
 ·rw[ho]at h1
  generalize vcmpF v w=c at *
  obtain ⟨k,n,u,s⟩:=v
  obtain ⟨k',n',u',s'⟩:=w
  simp only[a_mk]at *
  simp only[Bool.true_eq_false,if_false]
  by_cases a1:k=4
  ·subst a1
   by_cases a4:k'=0
   ·subst a4;simp[f_qhh,b_qhh,h1,zeroV,Val.a]
   ·simp[f_qhh,b_qhh,h1,zeroV,Val.a,beq_f a4]
  ·by_cases a3:k=0
   ·subst a3
    by_cases a2:k'=4
    ·subst a2;simp[f_qhh,b_qhh,h1,zeroV,Val.a]
    ·simp[f_qhh,b_qhh,h1,zeroV,Val.a,beq_f a2,a2]
   ·by_cases a2:k'=4
    ·subst a2;simp[f_qhh,b_qhh,h1,zeroV,Val.a,beq_f a1,a1,beq_f a3,a3]
    ·by_cases a4:k'=0
     ·subst a4;simp[f_qhh,b_qhh,h1,zeroV,Val.a,beq_f a1,a1,beq_f a3,a3]
     ·by_cases a5:k=k'
      ·subst a5;simp[f_qhh,b_qhh,h1,beq_f a1,a1,beq_f a3,a3,h2,hp _ _,hf,boolVal,Val.a]
      ·simp[f_qhh,b_qhh,h1,zeroV,Val.a,beq_f a1,a1,beq_f a3,a3,beq_f a2,a2,beq_f a4,a4,bne_t a5,a5]
@[simp] theorem Equal1_v(c:Int):pcall I.qgv [.int .i64 c]=some (.bool (c == 0)):=by
 rw[pcall_eq c_qgv rfl]
 simp[f_qgv,b_qgv]
@[simp] theorem Less1_v(c:Int):pcall I.qgy [.int .i64 c]=some (.bool (decide (c < 0))):=by
 rw[pcall_eq c_qgy rfl]
 simp[f_qgy,b_qgy]
abbrev equalF:=heldF (fun c=>c == 0)
abbrev lessF:=heldF (fun c=>decide (c < 0))
theorem Equal_v(a b:Val):pcall I.qgu [a.a,b.a]=some (.tup [(equalF a b).1.a,.int .i64 (equalF a b).2]):=by
 rw[pcall_eq c_qgu rfl]
 have h:=held_v I.qgv a_qgv (fun c=>c == 0) a b Equal1_v
 simp only[Val.a]at *
 simp[f_qgu,b_qgu,h]
theorem Less_v(a b:Val):pcall I.qgx [a.a,b.a]=some (.tup [(lessF a b).1.a,.int .i64 (lessF a b).2]):=by
 rw[pcall_eq c_qgx rfl]
 have h:=held_v I.qgy a_qgy (fun c=>decide (c < 0)) a b Less1_v
 simp only[Val.a]at *
 simp[f_qgx,b_qgx,h]
def vtruthF(v:Val):Int:=if v.k=0 then 1 else IntKind.i64.wrap (2 * v.n)
@[simp] theorem truth_v(k n u:Int)(s:List UInt8):pcall I.qhk [.agg [.int .i64 k,.int .i64 n,.int .u64 u,.str s]]=some (.int .i64 (vtruthF ⟨k,n,u,s⟩)):=by
 rw[pcall_eq c_qhk rfl]
 unfold vtruthF
 by_cases h:k=0
 ·subst h;simp[f_qhk,b_qhk]
 ·simp[f_qhk,b_qhk,beq_f h,h]
theorem truth_in{v:Val}(ho:okV v=true)(hk:¬1 < v.k):vtruthF v=0∨vtruthF v=1∨vtruthF v=2:=by
 obtain ⟨k,n,u,s⟩:=v
 unfold okV blankV at ho
 unfold vtruthF
 simp only at *
 by_cases h1:k=1
 ·subst h1
  by_cases h2:n≠0∧n≠1
  ·rw[if_pos rfl,if_pos h2]at ho
   simp at ho
  ·have:n=0∨n=1:=by omega
   rcases this with rfl|rfl
   ·left;rfl
   ·right;right;rfl
 ·by_cases h0:k=0
  ·simp[h0]
  ·rw[if_neg h1,if_neg (by omega),if_neg h0,if_neg (by omega),if_neg (by omega)]at ho
   simp[h0]at ho
def truthV(n:Int):Val:=if n=0 then boolVal false else if n=1 then zeroV else boolVal true
def logicF(to:Int→Int→Int)(v w:Val):Val×Int:=
 if (okV v&&okV w)=false then (zeroV,120) else if 1 < v.k∨1 < w.k then (zeroV,2) else (truthV (to (vtruthF v) (vtruthF w)),0)
def notF(v:Val):Val×Int:=if okV v=false then (zeroV,120) else if 1 < v.k then (zeroV,2) else (truthV (2 - vtruthF v),0)
@[simp] theorem And1_v(b:Bool)(n m:Int):pcall I.qgq [.imm b [.int .i64 n,.int .i64 m]]=some (.int .i64 (min n m)):=by
 rw[pcall_eq c_qgq rfl]
 simp[f_qgq,b_qgq]
 split<;>omega
@[simp] theorem Or1_v(b:Bool)(n m:Int):pcall I.qhd [.imm b [.int .i64 n,.int .i64 m]]=some (.int .i64 (max n m)):=by
 rw[pcall_eq c_qhd rfl]
 simp[f_qhd,b_qhd]
 split<;>omega
@[simp] theorem Not1_v(b:Bool)(n:Int):pcall I.qha [.imm b [.int .i64 n]]=some (.int .i64 (IntKind.i64.wrap (2 - n))):=by
 rw[pcall_eq c_qha rfl]
 simp[f_qha,b_qha]
theorem logic2_v(f:Nat)(hp:PureAt f)(to:Int→Int→Int)(b:Bool)(v w:Val)(hf:∀ b n m,pcall f [.imm b [.int .i64 n,.int .i64 m]]=some (.int .i64 (to n m)))
  (ht:∀ n m,(n=0∨n=1∨n=2)→(m=0∨m=1∨m=2)→to n m=0∨to n m=1∨to n m=2) :
  pcall I.qhi [.fn f [] [],.imm b [v.a,w.a]]=some (.tup [(logicF to v w).1.a,.int .i64 (logicF to v w).2]):=by
 rw[pcall_eq c_qhi rfl]
 have h1:=fun b=>right2_v b v w
 unfold logicF
 cases ho:(okV v&&okV w)
 ·rw[ho]at h1
  simp only[Val.a,zeroV]at *
  simp[f_qhi,b_qhi,h1]
 ·rw[ho]at h1
  simp only[Bool.and_eq_true]at ho
  simp only[Bool.true_eq_false,if_false]
  by_cases a1:1 < v.k
  ·obtain ⟨k,n,u,s⟩:=v
   simp only[Val.a,zeroV]at *
   simp[f_qhi,b_qhi,h1,l_qhi_0,rounds_go,roundEnd,IntKind.wrap,IntKind.bits,IntKind.signed,a1]
  ·have t1:=truth_in ho.1 a1
   by_cases a2:1 < w.k
   ·obtain ⟨k,n,u,s⟩:=v
    obtain ⟨k',n',u',s'⟩:=w
    simp only[Val.a,zeroV]at *
    simp[f_qhi,b_qhi,h1,l_qhi_0,rounds_go,roundEnd,IntKind.wrap,IntKind.bits,IntKind.signed,a1,a2,append,most,freezeObj]
   ·have t2:=truth_in ho.2 a2
    have t3:=ht _ _ t1 t2
    obtain ⟨k,n,u,s⟩:=v
    obtain ⟨k',n',u',s'⟩:=w
    simp only[Val.a,zeroV]at *
    generalize hA:vtruthF ⟨k,n,u,s⟩=A at *
    generalize hB:vtruthF ⟨k',n',u',s'⟩=B at *
    have hf':=hf false A B
    have hf2:=hf true A B
    rcases t3 with t3|t3|t3<;>rw[t3]at hf' hf2 ⊢ <;>
     simp[f_qhi,b_qhi,h1,l_qhi_0,rounds_go,roundEnd,IntKind.wrap,IntKind.bits,IntKind.signed,a1,a2,append,most,freezeObj,hA,hB,hp _ _,hf',hf2,truthV,boolVal,zeroV]
end Go.AM
end
section
namespace Go.AM
open P
set_option maxHeartbeats 4000000
set_option maxRecDepth 8000
attribute [local simp] condRun_if when_if
theorem Not_v(v:Val):pcall I.qgz [v.a]=some (.tup [(notF v).1.a,.int .i64 (notF v).2]):=by
 have key:∀ b,pcall I.qhi [.fn I.qha [] [],.imm b [v.a]]=some (.tup [(notF v).1.a,.int .i64 (notF v).2]):=fun b=>by
  rw[pcall_eq c_qhi rfl]
  have h1:=fun b=>right1_v b v
  unfold notF
  cases ho:okV v
  ·rw[ho]at h1
   simp only[Val.a,zeroV]at *
   simp[f_qhi,b_qhi,h1]
  ·rw[ho]at h1
   simp only[Bool.true_eq_false,if_false]
   by_cases a1:1 < v.k
   ·obtain ⟨k,n,u,s⟩:=v
    simp only[Val.a,zeroV]at *
    simp[f_qhi,b_qhi,h1,l_qhi_0,rounds_go,roundEnd,IntKind.wrap,IntKind.bits,IntKind.signed,a1]
   ·have t1:=truth_in ho a1
    obtain ⟨k,n,u,s⟩:=v
    simp only[Val.a,zeroV]at *
    generalize hA:vtruthF ⟨k,n,u,s⟩=A at *
    rcases t1 with rfl|rfl|rfl <;>
     simp[f_qhi,b_qhi,h1,l_qhi_0,rounds_go,roundEnd,IntKind.wrap,IntKind.bits,IntKind.signed,a1,append,most,freezeObj,hA,truthV,boolVal,zeroV]
 rw[pcall_eq c_qgz rfl]
 simp only[Val.a]at *
 simp[f_qgz,b_qgz,key]
theorem And_v(v w:Val):pcall I.qgp [v.a,w.a]=some (.tup [(logicF min v w).1.a,.int .i64 (logicF min v w).2]):=by
 rw[pcall_eq c_qgp rfl]
 have h:=fun b=>logic2_v I.qgq a_qgq min b v w And1_v (fun n m h1 h2=>by omega)
 simp only[Val.a]at *
 simp[f_qgp,b_qgp,h]
theorem Or_v(v w:Val):pcall I.qhc [v.a,w.a]=some (.tup [(logicF max v w).1.a,.int .i64 (logicF max v w).2]):=by
 rw[pcall_eq c_qhc rfl]
 have h:=fun b=>logic2_v I.qhd a_qhd max b v w Or1_v (fun n m h1 h2=>by omega)
 simp only[Val.a]at *
 simp[f_qhc,b_qhc,h]
abbrev fn0(f:Nat):AVal:=.fn f [] []
abbrev fnC(f:Nat)(x:AVal):AVal:=.fn f [] [.cptr false x 0]
def doesA:List (AVal×AVal):=
 [(.int .i64 4,fnC I.qde (fn0 I.qj)),(.int .i64 5,fnC I.qde (fn0 I.qgz)),(.int .i64 6,fnC I.qdj (.bool true)),(.int .i64 7,fnC I.qdj (.bool false)),
  (.int .i64 12,fn0 I.qa),(.int .i64 13,fn0 I.qk),(.int .i64 14,fn0 I.qh),(.int .i64 15,fn0 I.qd),(.int .i64 16,fn0 I.qgu),(.int .i64 17,fnC I.qdh (fn0 I.qgu)),
  (.int .i64 18,fn0 I.qgx),(.int .i64 20,fnC I.qdq (fn0 I.qgx)),(.int .i64 19,fnC I.qdh (fnC I.qdq (fn0 I.qgx))),(.int .i64 21,fnC I.qdh (fn0 I.qgx)),
  (.int .i64 22,fn0 I.qgp),(.int .i64 23,fn0 I.qhc)]
theorem does_v:pcall I.qdc []=some (.imap false doesA):=pcall_from (n:=40) (show callN code 40 I.qdc [] []=some (.imap false doesA,[]) by kernel_rfl)
@[simp] theorem doesA_fz(fl top:Bool)(base:Nat)(σ:Store)(n:Nat):fz fl top base σ (n+4) (.imap false doesA)=.imap false doesA:=by simp
end Go.AM
end
section
namespace Go.AM
open P
set_option maxHeartbeats 4000000
set_option maxRecDepth 8000
attribute [local simp] condRun_if when_if
def Does(g:AVal)(F:Val→Val→Val×Int)(ok:Val→Prop):Prop:=∀ a b σ,ok b→acallV code g [a.a,b.a] σ=some (.tup [(F a b).1.a,.int .i64 (F a b).2],σ)
theorem does_pure{f:Nat}(hp:PureAt f){F:Val→Val→Val×Int}{ok:Val→Prop}(h:∀ a b,ok b→pcall f [a.a,b.a]=some (.tup [(F a b).1.a,.int .i64 (F a b).2])):Does (fn0 f) F ok:=fun a b σ hb=>by
 have:=h a b hb
 simp[hp _ _,this]
abbrev okA(_:Val):Prop:=True
theorem first1_v{f:Nat}(hp:PureAt f){F:Val→Val×Int}(h:∀ a,pcall f [a.a]=some (.tup [(F a).1.a,.int .i64 (F a).2])):Does (fnC I.qde (fn0 f)) (fun a _=>F a) okA:=fun a b σ _=>by
 have h:=h a
 have:pcall I.qde [a.a,b.a,.cptr false (fn0 f) 0]=some (.tup [(F a).1.a,.int .i64 (F a).2]):=by
  rw[pcall_eq c_qde rfl]
  simp only[Val.a]at *
  simp[f_qde,b_qde,hp _ _,h]
 simp[this]
theorem null1_v(is:Bool):Does (fnC I.qdj (.bool is)) (fun a _=>(boolVal ((a.k == 0) == is),0)) okA:=fun a b σ _=>by
 have:pcall I.qdj [a.a,b.a,.cptr false (.bool is) 0]=some (.tup [(boolVal ((a.k == 0) == is)).a,.int .i64 0]):=by
  rw[pcall_eq c_qdj rfl]
  simp only[Val.a]
  simp[f_qdj,b_qdj,neg,boolVal,Val.a]
 simp[this]
theorem turned1_v{f:Nat}(hp:PureAt f){F:Val→Val→Val×Int}(h:∀ a b,pcall f [a.a,b.a]=some (.tup [(F a b).1.a,.int .i64 (F a b).2]))(a b:Val) :
  pcall I.qdq [a.a,b.a,.cptr false (fn0 f) 0]=some (.tup [(F b a).1.a,.int .i64 (F b a).2]):=by
 have h:=h b a
 rw[pcall_eq c_qdq rfl]
 simp only[Val.a]at *
 simp[f_qdq,b_qdq,hp _ _,h]
def notT(p:Val×Int):Val×Int:=if p.2=0 then notF p.1 else p
theorem not1_v{g:AVal}{F:Val→Val→Val×Int}(hg:Does g F okA)(hn:ncells g=1∧isAgg g=false)(hz:∀ fl top base σ n,fz fl top base σ (n+4) g=g)(a b:Val) :
  pcall I.qdh [a.a,b.a,.cptr false g 0]=some (.tup [(notT (F a b)).1.a,.int .i64 (notT (F a b)).2]):=by
 have h:=fun σ=>hg a b σ trivial
 rw[pcall_eq c_qdh rfl]
 have h2:=Not_v (F a b).1
 unfold notT
 generalize F a b=p at *
 obtain ⟨v,no⟩:=p
 simp only at *
 by_cases h0:no=0
 ·subst h0
  simp only[Val.a,if_true]at *
  simp[f_qdh,b_qdh,h,h2,hn]
 ·simp only[Val.a,if_neg h0]at *
  simp[f_qdh,b_qdh,h,bne_t h0,hn]
noncomputable def tagF(t:Int)(a b:Val):Val×Int:=
 if t=4 then doF (termF I.ql) (intVal 0) a else if t=5 then notF a else if t=6 then (boolVal ((a.k == 0) == true),0) else if t=7 then (boolVal ((a.k == 0) == false),0)
 else if t=12 then doF (termF I.qb) a b else if t=13 then doF (termF I.ql) a b else if t=14 then doF (termF I.qi) a b else if t=15 then doF (termF I.qe) a b
 else if t=16 then equalF a b else if t=17 then notT (equalF a b) else if t=18 then lessF a b else if t=20 then lessF b a else if t=19 then notT (lessF b a) else if t=21 then notT (lessF a b)
 else if t=22 then logicF min a b else logicF max a b
theorem look_v(t:Int)(h:1≤eparts t):∃ g,lookup (.int .i64 t) doesA=some (some g)∧Does g (tagF t) (fun b=>rg b.n):=by
 have ht:t=4∨t=5∨t=6∨t=7∨t=12∨t=13∨t=14∨t=15∨t=16∨t=17∨t=18∨t=19∨t=20∨t=21∨t=22∨t=23:=by
  unfold eparts at h;repeat' split at h
  all_goals omega
 have w:∀ {g F},Does g F okA→Does g F (fun b=>rg b.n):=fun h a b σ _=>h a b σ trivial
 have tl:Does (fnC I.qdq (fn0 I.qgx)) (fun a b=>lessF b a) okA:=fun a b σ _=>by
  have:=turned1_v a_qgx Less_v a b
  simp[this]
 have nt:∀ {g F},Does g F okA→(ncells g=1∧isAgg g=false)→(∀ fl top base σ n,fz fl top base σ (n+4) g=g)→Does (fnC I.qdh g) (fun a b=>notT (F a b)) okA:=fun h h1 h2 a b σ _=>by
  have:=not1_v h h1 h2 a b
  simp[this]
 rcases ht with rfl|rfl|rfl|rfl|rfl|rfl|rfl|rfl|rfl|rfl|rfl|rfl|rfl|rfl|rfl|rfl
 ·exact ⟨_,rfl,w (first1_v a_qj Neg_v)⟩
 ·exact ⟨_,rfl,w (first1_v a_qgz Not_v)⟩
 ·exact ⟨_,rfl,w (null1_v true)⟩
 ·exact ⟨_,rfl,w (null1_v false)⟩
 ·exact ⟨_,rfl,w (does_pure a_qa fun a b _=>Add_v a b)⟩
 ·exact ⟨_,rfl,w (does_pure a_qk fun a b _=>Sub_v a b)⟩
 ·exact ⟨_,rfl,w (does_pure a_qh fun a b _=>Mul_v a b)⟩
 ·exact ⟨_,rfl,does_pure a_qd fun a b h=>Div_v a b h⟩
 ·exact ⟨_,rfl,w (does_pure a_qgu fun a b _=>Equal_v a b)⟩
 ·exact ⟨_,rfl,w (nt (does_pure a_qgu fun a b _=>Equal_v a b) ⟨rfl,rfl⟩ (fun _ _ _ _ _=>by simp))⟩
 ·exact ⟨_,rfl,w (does_pure a_qgx fun a b _=>Less_v a b)⟩
 ·exact ⟨_,rfl,w (nt tl ⟨rfl,rfl⟩ (fun _ _ _ _ _=>by simp))⟩
 ·exact ⟨_,rfl,w tl⟩
 ·exact ⟨_,rfl,w (nt (does_pure a_qgx fun a b _=>Less_v a b) ⟨rfl,rfl⟩ (fun _ _ _ _ _=>by simp))⟩
 ·exact ⟨_,rfl,w (does_pure a_qgp fun a b _=>And_v a b)⟩
 ·exact ⟨_,rfl,w (does_pure a_qhc fun a b _=>Or_v a b)⟩
end Go.AM
end
section
namespace Go.AM
open P
set_option maxHeartbeats 8000000
set_option maxRecDepth 8000
attribute [local simp] condRun_if when_if
def oddK(k:Int):Bool:=decide (k < 0) || decide (3 < k)
def kindF(e:List EN)(kinds:List Int):Int×Int:=
 if okE e=false then (0,200) else if kinds.any oddK then (0,2) else if (colsF e).any (fun c=>decide ((kinds.length:Int)≤c)) then (0,2) else overF 0 (kind1F kinds) e
theorem colsE_mem{e:List EN}{n:EN}(h:n∈e)(ht:n.tag=2):n.col∈colsF e:=by
 unfold colsF
 rw[compactL_mem,sortI_mem]
 exact List.mem_flatMap.2 ⟨n,h,by rw[if_pos ht];simp⟩
theorem mem_colsE{e:List EN}{c:Int}(h:c∈colsF e):∃ n∈e,n.tag=2∧n.col=c:=by
 unfold colsF at h
 rw[compactL_mem,sortI_mem]at h
 obtain ⟨n,hn,hc⟩:=List.mem_flatMap.1 h
 split at hc
 ·rename_i ht;exact ⟨n,hn,ht,(List.mem_singleton.1 hc).symm⟩
 ·cases hc
theorem counts_col{n:EN}(h:countsE n=true)(ht:n.tag=2):0≤n.col∧n.col < 16:=by
 unfold countsE at h
 rw[if_neg (by omega),if_pos ht]at h
 simp at h
 exact ⟨h.1.2,h.2⟩
theorem colsF_le(e:List EN):(colsF e).length≤e.length:=by
 unfold colsF
 have h1:=compactL_le (sortI (colsE e))
 have h2:=sortI_len (colsE e)
 have h3:=colsE_le e
 omega
theorem kind_spec(b:Bool)(e:List EN)(bk:Bool)(kinds:List Int)(hn:e.length≤most)(hk:kinds.length≤most) :
  pcall I.qcy [.agg [.imm b (e.map EN.a)],.imm bk (intsA kinds)]=some (.tup [.int .i64 (kindF e kinds).1,.int .i64 (kindF e kinds).2]):=by
 rw[pcall_eq c_qcy rfl]
 have hc:=fun b=>eCheck_spec b e hn
 simp only[exprA,ensA]at hc
 unfold kindF
 cases ho:okE e with
 | false=>
  rw[ho]at hc
  simp[f_qcy,b_qcy,hc]
 | true=>
  rw[ho]at hc
  have h1:=rounds_any (base:=2) (clr:=[4,5,7,13,14]) (b:=l_qcz) kinds
   (fun k=>⟨[.agg [.imm b (e.map EN.a)],.imm bk (intsA kinds),.ptr 0 0 0 0,.ptr 1 0 0 0,.any,.any,.int .i64 0,.any,.any,.bool false,.imm bk (intsA kinds),.int .i64 kinds.length,.int .i64 k,.any,.any,.any,.any,.any,.any,.any],[.arr 1 0 [.agg [.imm b (e.map EN.a)]],.arr 1 0 [.imm bk (intsA kinds)]]⟩) oddK
   (.ext 0,⟨[.agg [.imm b (e.map EN.a)],.imm bk (intsA kinds),.ptr 0 0 0 0,.ptr 1 0 0 0,.any,.any,.int .i64 0,.any,.any,.bool false,.imm bk (intsA kinds),.int .i64 kinds.length,.int .i64 kinds.length,.bool false,.any,.any,.any,.any,.any,.any],[.arr 1 0 [.agg [.imm b (e.map EN.a)]],.arr 1 0 [.imm bk (intsA kinds)]]⟩)
   (fun o=>∃ s,o=(.ret,s)∧thenLeave .pure [.env 4,.env 5] (some (.ret,s))=some (.tup [.int .i64 0,.int .i64 2]))
   (fun k y hk' hy hp=>by
    have hlt:((k:Int) < (kinds.length:Int)):=by omega
    unfold oddK at hp
    simp at hp
    have e1:¬(y < 0):=by omega
    have e2:¬(3 < y):=by omega
    simp[l_qcz,hlt,hy,e1,e2,wrap_lt hk' hk,roundEnd_same])
   (fun k y hk' hy hp=>by
    have hlt:((k:Int) < (kinds.length:Int)):=by omega
    unfold oddK at hp
    simp at hp
    by_cases e1:y < 0
    ·exact ⟨_,by simp[l_qcz,hlt,hy,e1];rfl,_,rfl,by simp⟩
    ·have e2:3 < y:=by omega
     exact ⟨_,by simp[l_qcz,hlt,hy,e1,e2];rfl,_,rfl,by simp⟩)
   (by simp[l_qcz])
  rcases h1 with ⟨ha,h1⟩|⟨ha,o,h1,s,rfl,h2⟩
  ·rw[ha]
   have hC:=fun b=>Cols_spec b e hn ho
   have hcl:=colsF_le e
   have h2:=rounds_any (base:=2) (clr:=[4,5,8,18,19]) (b:=l_qcy_0) (colsF e)
    (fun k=>⟨[.agg [.imm b (e.map EN.a)],.imm bk (intsA kinds),.ptr 0 0 0 0,.ptr 1 0 0 0,.any,.any,.int .i64 0,.any,.any,.bool false,.imm bk (intsA kinds),.int .i64 kinds.length,.int .i64 kinds.length,.bool false,.any,.imm false (intsA (colsF e)),.int .i64 (colsF e).length,.int .i64 k,.any,.any],[.arr 1 0 [.agg [.imm b (e.map EN.a)]],.arr 1 0 [.imm bk (intsA kinds)]]⟩)
    (fun c=>decide ((kinds.length:Int)≤c))
    (.ext 2,⟨[.agg [.imm b (e.map EN.a)],.imm bk (intsA kinds),.ptr 0 0 0 0,.ptr 1 0 0 0,.any,.any,.int .i64 0,.any,.any,.bool false,.imm bk (intsA kinds),.int .i64 kinds.length,.int .i64 kinds.length,.bool false,.any,.imm false (intsA (colsF e)),.int .i64 (colsF e).length,.int .i64 (colsF e).length,.bool false,.any],[.arr 1 0 [.agg [.imm b (e.map EN.a)]],.arr 1 0 [.imm bk (intsA kinds)]]⟩)
    (fun o=>∃ s,o=(.ret,s)∧thenLeave .pure [.env 4,.env 5] (some (.ret,s))=some (.tup [.int .i64 0,.int .i64 2]))
    (fun k y hk' hy hp=>by
     have hlt:((k:Int) < ((colsF e).length:Int)):=by omega
     have hp':¬((kinds.length:Int)≤y):=by simpa using hp
     simp[l_qcy_0,hlt,hy,hp',wrap_lt hk' (by omega),roundEnd_same])
    (fun k y hk' hy hp=>by
     have hlt:((k:Int) < ((colsF e).length:Int)):=by omega
     have hp':((kinds.length:Int)≤y):=by simpa using hp
     exact ⟨_,by simp[l_qcy_0,hlt,hy,hp'];rfl,_,rfl,by simp⟩)
    (by simp[l_qcy_0])
   simp at h1
   rcases h2 with ⟨hb,h2⟩|⟨hb,o,h2,s,rfl,h3⟩
   ·rw[hb]
    have hover:=fun b=>over_int b e hn ho (.fn I.qcz [] [.cptr true (.imm bk (intsA kinds)) 0]) (fun fl top base σ h=>by cases fl<;>cases top<;>simp at h ⊢) (kind1F kinds) (fun _=>True) (fun _ _ _ _ _ _ _=>trivial)
     (fun n hne l hl hcn _ σ x hx=>by
      have:=eparts_le n.tag
      have hk1:=kind1_spec n true l bk kinds (by unfold most;omega) (fun ht=>by
       obtain ⟨h1,h2⟩:=counts_col hcn ht
       have:=List.any_eq_false.1 hb n.col (colsE_mem hne ht)
       simp at this
       exact ⟨h1,by omega⟩)
      have hna:fz true false 0 σ 20 n.a=n.a:=Fx.fx true false 0 σ 17 n
      simp only[snap_eq]at hx
      simp[hx,hna,hk1])
    simp at h2
    simp[f_qcy,b_qcy,hc,h1,hC,h2,hover]
   ·rw[hb]
    simp at h2
    simp[f_qcy,b_qcy,hc,h1,hC,h2,-thenLeave_ret]
    exact h3
  ·rw[ha]
   simp at h1
   simp[f_qcy,b_qcy,hc,h1,-thenLeave_ret]
   exact h2
end Go.AM
end
section
namespace Go.AM
open P
set_option maxHeartbeats 8000000
set_option maxRecDepth 8000
attribute [local simp] condRun_if when_if
def Iv(v:Val):Prop:=plainV v=true∧rg v.n
theorem Iv_zero:Iv zeroV:=⟨by decide,by simp[zeroV,rg]⟩
theorem Iv_bool(b:Bool):Iv (boolVal b):=by cases b<;>exact ⟨by decide,by simp[boolVal,rg]⟩
theorem Iv_int{n:Int}(h:rg n):Iv (intVal n):=⟨by simp[intVal,plainV,okV,blankV],h⟩
theorem Iv_truth(n:Int):Iv (truthV n):=by
 unfold truthV;repeat' split
 all_goals first|exact Iv_bool _|exact Iv_zero
theorem Iv_do{to:Int→Int→Int×Bool}{a b:Val}(h:rg (to a.n b.n).1):Iv (doF to a b).1:=by
 unfold doF;repeat' split
 all_goals first|exact Iv_zero|exact Iv_int h
theorem Iv_not(a:Val):Iv (notF a).1:=by
 unfold notF;repeat' split
 all_goals first|exact Iv_zero|exact Iv_truth _
theorem Iv_held(is:Int→Bool)(a b:Val):Iv (heldF is a b).1:=by
 unfold heldF;repeat' split
 all_goals first|exact Iv_zero|exact Iv_bool _
theorem Iv_logic(to:Int→Int→Int)(a b:Val):Iv (logicF to a b).1:=by
 unfold logicF;repeat' split
 all_goals first|exact Iv_zero|exact Iv_truth _
theorem Iv_notT{p:Val×Int}(h:Iv p.1):Iv (notT p).1:=by
 unfold notT;split
 ·exact Iv_not _
 ·exact h
theorem Iv_ite{c:Prop}[Decidable c]{p q:Val×Int}(h1:Iv p.1)(h2:Iv q.1):Iv (if c then p else q).1:=by split;exact h1;exact h2
theorem Iv_tag(t:Int)(a b:Val)(hb:rg b.n):Iv (tagF t a b).1:=by
 unfold tagF
 exact Iv_ite (Iv_do (term_sub _ _)) (Iv_ite (Iv_not _) (Iv_ite (Iv_bool _) (Iv_ite (Iv_bool _) (Iv_ite (Iv_do (term_add _ _)) (Iv_ite (Iv_do (term_sub _ _)) (Iv_ite (Iv_do (term_mul _ _)) (Iv_ite (Iv_do (term_div _ _ hb)) (Iv_ite (Iv_held _ _ _) (Iv_ite (Iv_notT (Iv_held _ _ _)) (Iv_ite (Iv_held _ _ _) (Iv_ite (Iv_held _ _ _) (Iv_ite (Iv_notT (Iv_held _ _ _)) (Iv_ite (Iv_notT (Iv_held _ _ _)) (Iv_ite (Iv_logic _ _ _) (Iv_logic _ _ _)))))))))))))))
noncomputable def eval1F(r:List Val)(n:EN)(l:List Val):Val×Int:=
 if n.tag=1 then (n.v,0) else if n.tag=2 then (r.getD n.col.toNat zeroV,0) else
 let p:=tagF n.tag (l.getD 0 zeroV) (l.getD (l.length - 1) zeroV)
 (p.1,if p.2≠0∧p.2≠140 then 201 else p.2)
theorem eval1_v(n:EN)(b:Bool)(l:List Val)(br:Bool)(r:List Val)(hl:l.length=(eparts n.tag).toNat)(hI:∀ v∈l,Iv v)(h0:0≤eparts n.tag)(hc:n.tag=2→0≤n.col∧n.col < r.length) :
  pcall I.qcx [n.a,.imm b (l.map Val.a),.cptr true (.imm br (r.map Val.a)) 0,.cptr true (.imap false doesA) 0]=some (.tup [(eval1F r n l).1.a,.int .i64 (eval1F r n l).2]):=by
 rw[pcall_eq c_qcx rfl]
 unfold eval1F
 by_cases h1:n.tag=1
 ·rw[if_pos h1]
  simp only[EN.a,h1,Val.a]
  simp[f_qcx,b_qcx]
 ·rw[if_neg h1]
  by_cases h2:n.tag=2
  ·rw[if_pos h2]
   obtain ⟨c1,c2⟩:=hc h2
   have c3:n.col.toNat < r.length:=by omega
   have c4:r.getD n.col.toNat zeroV=r[n.col.toNat]:=by simp[List.getD,c3]
   rw[c4]
   simp only[EN.a,h2]
   simp[f_qcx,b_qcx,c1,c2,c3]
  ·rw[if_neg h2]
   have hp:1≤eparts n.tag:=by
    unfold eparts at h0 ⊢
    rw[if_neg (by omega)]at h0 ⊢
    repeat' split
    all_goals first|omega|(exfalso;repeat' split at h0;all_goals omega)
   obtain ⟨g,hg1,hg2⟩:=look_v n.tag hp
   have hle:=eparts_le n.tag
   have hl1:1≤l.length:=by omega
   have hlast:l.length - 1 < l.length:=by omega
   have hA:l.getD 0 zeroV=l[0]:=by rw[List.getD_eq_getElem?_getD,List.getElem?_eq_getElem hl1];rfl
   have hB:l.getD (l.length - 1) zeroV=l[l.length - 1]:=by rw[List.getD_eq_getElem?_getD,List.getElem?_eq_getElem hlast];rfl
   have hi:=hI l[l.length - 1] (List.getElem_mem _)
   have hg3:=fun σ=>hg2 l[0] l[l.length - 1] σ hi.2
   have hw:IntKind.i64.wrap ((l.length:Int) - 1)=((l.length - 1:Nat):Int):=by rw[wrap64_id (by omega)];omega
   have hw2:((l.length:Int) - 1).toNat=l.length - 1:=by omega
   have e0:l[0]?=some l[0]:=List.getElem?_eq_getElem hl1
   have e1:l[l.length - 1]?=some l[l.length - 1]:=List.getElem?_eq_getElem hlast
   rw[hA,hB]
   generalize l[0]=x at *
   generalize l[l.length - 1]=y at *
   generalize tagF n.tag x y=p at *
   obtain ⟨w,no⟩:=p
   simp only at *
   simp only[Val.a]at hg3
   by_cases n0:no=0
   ·subst n0
    simp only[EN.a]
    simp[f_qcx,b_qcx,beq_f h1,beq_f h2,hg1,hg3,e0,e1,hw,hw2,isKey,Val.a]
   ·by_cases n1:no=140
    ·subst n1
     simp only[EN.a]
     simp[f_qcx,b_qcx,beq_f h1,beq_f h2,hg1,hg3,e0,e1,hw,hw2,isKey,Val.a]
    ·simp only[EN.a]
     simp[f_qcx,b_qcx,beq_f h1,beq_f h2,hg1,hg3,e0,e1,hw,hw2,isKey,Val.a,bne_t n0,bne_t n1,n0,n1]
noncomputable def evalF(e:List EN)(r:List Val):Val×Int:=
 if okE e=false then (zeroV,200) else if (colsF e).any (fun c=>decide ((r.length:Int)≤c) || !plainV (r.getD c.toNat zeroV)) then (zeroV,2) else overF zeroV (eval1F r) e
def rgR(r:List Val):Prop:=∀ v∈r,rg v.n
def rgE(e:List EN):Prop:=∀ n∈e,rg n.v.n
theorem eval1_Iv{e:List EN}{r:List Val}(hr:rgR r)(hE:rgE e)(hany:∀ c∈colsF e,c < r.length∧plainV (r.getD c.toNat zeroV)=true)(n:EN)(hn:n∈e)(l:List Val)(hl:l.length=(eparts n.tag).toNat)(hc:countsE n=true)(hI:∀ y∈l,Iv y):Iv (eval1F r n l).1:=by
 unfold eval1F
 by_cases h1:n.tag=1
 ·rw[if_pos h1]
  unfold countsE at hc
  rw[if_pos h1]at hc
  simp at hc
  exact ⟨hc.1,hE n hn⟩
 ·rw[if_neg h1]
  by_cases h2:n.tag=2
  ·rw[if_pos h2]
   obtain ⟨c1,c2⟩:=counts_col hc h2
   obtain ⟨d1,d2⟩:=hany _ (colsE_mem hn h2)
   refine ⟨d2,?_⟩
   have hlt:n.col.toNat < r.length:=by omega
   rw[List.getD_eq_getElem?_getD,List.getElem?_eq_getElem hlt]
   exact hr _ (List.getElem_mem _)
  ·rw[if_neg h2]
   refine Iv_tag _ _ _ ?_
   rw[List.getD_eq_getElem?_getD]
   cases hq:l[l.length - 1]? with
   | none=>exact Iv_zero.2
   | some y=>exact (hI y (List.mem_of_getElem? hq)).2
theorem okE_counts{e:List EN}(ho:okE e=true){n:EN}(h:n∈e):countsE n=true:=by
 obtain ⟨k,hk⟩:=List.getElem?_of_mem h
 obtain ⟨hlt,_⟩:=List.getElem?_eq_some_iff.1 hk
 obtain ⟨a,o,h1⟩:=okE_at ho (k:=k) (by omega)
 obtain ⟨a',o',_,_,_,_,hc,_⟩:=okE_step ho hk h1
 exact hc
theorem eval_v(b:Bool)(e:List EN)(br:Bool)(r:List Val)(hn:e.length≤most)(hr:rgR r)(hE:rgE e) :
  pcall I.qcw [.agg [.imm b (e.map EN.a)],.imm br (r.map Val.a)]=some (.tup [(evalF e r).1.a,.int .i64 (evalF e r).2]):=by
 rw[pcall_eq c_qcw rfl]
 have hc:=fun b=>eCheck_spec b e hn
 simp only[exprA,ensA]at hc
 unfold evalF
 cases ho:okE e with
 | false=>
  rw[ho]at hc
  simp[f_qcw,b_qcw,hc,zeroV,Val.a]
 | true=>
  rw[ho]at hc
  have hC:=fun b=>Cols_spec b e hn ho
  have hcl:=colsF_le e
  have h2:=rounds_any (base:=3) (clr:=[5,7,13,14]) (b:=l_qcw_0) (colsF e)
   (fun k=>⟨[.agg [.imm b (e.map EN.a)],.imm br (r.map Val.a),.ptr 0 0 0 0,.ptr 1 0 0 0,.ptr 2 0 0 0,.any,.int .i64 0,.any,.any,.bool false,.imm false (intsA (colsF e)),.int .i64 (colsF e).length,.int .i64 k,.any,.any],[.arr 1 0 [.agg [.imm b (e.map EN.a)]],.arr 1 0 [.imm br (r.map Val.a)],.arr 4 0 [.agg [.int .i64 0,.int .i64 0,.int .u64 0,.str []]]]⟩)
   (fun c=>decide ((r.length:Int)≤c) || !plainV (r.getD c.toNat zeroV))
   (.ext 0,⟨[.agg [.imm b (e.map EN.a)],.imm br (r.map Val.a),.ptr 0 0 0 0,.ptr 1 0 0 0,.ptr 2 0 0 0,.any,.int .i64 0,.any,.any,.bool false,.imm false (intsA (colsF e)),.int .i64 (colsF e).length,.int .i64 (colsF e).length,.bool false,.any],[.arr 1 0 [.agg [.imm b (e.map EN.a)]],.arr 1 0 [.imm br (r.map Val.a)],.arr 4 0 [.agg [.int .i64 0,.int .i64 0,.int .u64 0,.str []]]]⟩)
   (fun o=>∃ s,o=(.ret,s)∧thenLeave .pure [.cell true 4 4,.env 5] (some (.ret,s))=some (.tup [zeroV.a,.int .i64 2]))
   (fun k y hk' hy hp=>by
    have hlt:((k:Int) < ((colsF e).length:Int)):=by omega
    obtain ⟨n,hne,ht,rfl⟩:=mem_colsE (List.mem_of_getElem? hy)
    obtain ⟨c1,c2⟩:=counts_col (okE_counts ho hne) ht
    simp only[Bool.or_eq_false_iff,decide_eq_false_iff_not,Bool.not_eq_false']at hp
    obtain ⟨hp1,hp2⟩:=hp
    have hlt2:n.col.toNat < r.length:=by omega
    rw[List.getD_eq_getElem?_getD,List.getElem?_eq_getElem hlt2]at hp2
    simp only[Option.getD_some]at hp2
    simp[l_qcw_0,hlt,hy,hp1,c1,hlt2,Plain_spec,hp2,wrap_lt hk' (Nat.le_trans hcl hn),roundEnd_same])
   (fun k y hk' hy hp=>by
    have hlt:((k:Int) < ((colsF e).length:Int)):=by omega
    obtain ⟨n,hne,ht,rfl⟩:=mem_colsE (List.mem_of_getElem? hy)
    obtain ⟨c1,c2⟩:=counts_col (okE_counts ho hne) ht
    by_cases hp1:(r.length:Int)≤n.col
    ·exact ⟨_,by simp[l_qcw_0,hlt,hy,hp1];rfl,_,rfl,by simp[zeroV,Val.a]⟩
    ·have hp2:plainV (r.getD n.col.toNat zeroV)=false:=by simpa [hp1] using hp
     have hlt2:n.col.toNat < r.length:=by omega
     rw[List.getD_eq_getElem?_getD,List.getElem?_eq_getElem hlt2]at hp2
     simp only[Option.getD_some]at hp2
     exact ⟨_,by simp[l_qcw_0,hlt,hy,hp1,c1,hlt2,Plain_spec,hp2];rfl,_,rfl,by simp[zeroV,Val.a]⟩)
   (by simp[l_qcw_0])
  rcases h2 with ⟨hb,h2⟩|⟨hb,o,h2,s,rfl,h3⟩
  ·rw[hb]
   have hany:∀ c∈colsF e,c < r.length∧plainV (r.getD c.toNat zeroV)=true:=fun c hc=>by
    have:=List.any_eq_false.1 hb c hc
    simp only[Bool.or_eq_true,decide_eq_true_eq,Bool.not_eq_true',not_or,Bool.not_eq_false]at this
    exact ⟨by omega,this.2⟩
   have hover:=fun b=>over_val b e hn ho (.fn I.qcx [] [.cptr true (.imm br (r.map Val.a)) 0,.cptr true (.imap false doesA) 0]) (fun fl top base σ h=>by cases fl<;>cases top<;>simp at h ⊢) (eval1F r) Iv
    (fun n hne l hl hcn hI _=>eval1_Iv hr hE hany n hne l hl hcn hI)
    (fun n hne l hl hcn hI σ x hx=>by
     obtain ⟨k,hk⟩:=List.getElem?_of_mem hne
     obtain ⟨hlt,_⟩:=List.getElem?_eq_some_iff.1 hk
     obtain ⟨a,o,h1⟩:=okE_at ho (k:=k) (by omega)
     obtain ⟨a',o',_,_,h0,_,_,_⟩:=okE_step ho hk h1
     have hk1:=eval1_v n true l br r hl hI h0 (fun ht=>by
      obtain ⟨h1,h2⟩:=counts_col hcn ht
      exact ⟨h1,(hany _ (colsE_mem hne ht)).1⟩)
     have hna:fz true false 0 σ 20 n.a=n.a:=Fx.fx true false 0 σ 17 n
     simp only[snap_eq]at hx
     simp[hx,hna,hk1])
   simp at h2
   simp[f_qcw,b_qcw,hc,hC,h2,does_v,hover,Val.a]
  ·rw[hb]
   simp at h2
   simp[f_qcw,b_qcw,hc,hC,h2,-thenLeave_ret]
   exact h3
end Go.AM
end
namespace Go.AM
theorem foldL_inv{α σ ρ:Type}{g:Nat→α→σ→σ⊕ρ}{l:List α}(Inv:Nat→σ→Prop)(hstep:∀ k y s s',l[k]?=some y→Inv k s→g k y s=.inl s'→Inv (k+1) s'){s s':σ}(h0:Inv 0 s)(h:foldL g l 0 s=.inl s'):Inv l.length s':=by
 have key:∀ (m:List α) k s,l.drop k=m→k≤l.length→Inv k s→foldL g m k s=.inl s'→Inv l.length s':=by
  intro m
  induction m with
  | nil=>
   intro k s hd hk hi hf
   have:k=l.length:=by
    have:=congrArg List.length hd
    simp at this;omega
   subst this
   cases hf;exact hi
  | cons y m ih=>
   intro k s hd hk hi hf
   have hlt:k < l.length:=by
    have:=congrArg List.length hd
    simp at this;omega
   have hy:l[k]?=some y:=by
    have:=congrArg (·[0]?) hd
    simpa using this
   have hm:l.drop (k+1)=m:=by
    have:=congrArg List.tail hd
    simpa [List.tail_drop] using this
   simp only[foldL]at hf
   cases hg:g k y s with
   | inl t=>
    rw[hg]at hf
    exact ih (k+1) t hm (by omega) (hstep k y s t hy hi hg) hf
   | inr r=>rw[hg]at hf;cases hf
 exact key l 0 s (by simp) (Nat.zero_le _) h0 h
theorem over_inv{β:Type}{z:β}{doF:EN→List β→β×Int}{e:List EN}(ho:okE e=true)(Iv:β→Prop)(hIv:∀ n∈e,∀ l:List β,l.length=(eparts n.tag).toNat→countsE n=true→(∀ y∈l,Iv y)→(doF n l).2=0→Iv (doF n l).1)(h:(overF z doF e).2=0) :
  Iv (overF z doF e).1∨∃ no,no≠0∧overF z doF e=(z,no):=by
 unfold overF at *
 cases hf:foldL (overG doF) e 0 [] with
 | inr no=>
  rw[hf]at h
  simp only at h
  subst h
  exfalso
  have key:∀ (m:List EN) k st,foldL (overG doF) m k st≠.inr 0:=by
   intro m
   induction m with
   | nil=>intro k st h;cases h
   | cons n m ih=>
    intro k st h
    simp only[foldL]at h
    unfold overG at h
    split at h
    ·rename_i hg;exact ih _ _ h
    ·rename_i r hg
     split at hg
     ·cases hg
     ·rename_i h0
      injection hg with hg
      subst hg
      injection h with h
      exact h0 h
  exact key _ _ _ hf
 | inl st=>
  left
  have:=foldL_inv (l:=e) (fun k st=>(∀ y∈st,Iv y)∧∃ a o,firstsL (e.take k) 0 [] []=some (a,o)∧st.length=o.length) (fun k n st st' hy hi hg=>by
   obtain ⟨hiv,a,o,hf,hlo⟩:=hi
   obtain ⟨a',o',hf',hs,h1,h2,h3,h4⟩:=okE_step ho hy hf
   have hd:(st.drop (st.length - (eparts n.tag).toNat)).length=(eparts n.tag).toNat:=by rw[List.length_drop];omega
   have htl:(st.take (st.length - (eparts n.tag).toNat)).length=st.length - (eparts n.tag).toNat:=by rw[List.length_take];omega
   unfold overG at hg
   split at hg
   ·rename_i h0
    cases hg
    have hx:=hIv n (List.mem_of_getElem? hy) _ hd h3 (fun y hy'=>hiv y (List.mem_of_mem_drop hy')) h0
    exact ⟨fun y hy'=>(List.mem_append.1 hy').elim (fun h=>hiv y (List.mem_of_mem_take h)) (fun h=>by rw[List.mem_singleton.1 h];exact hx),a',o',hf',by simp[htl,h4,hlo]⟩
   ·cases hg) ⟨by simp,[],[],by simp[firstsL],rfl⟩ hf
  obtain ⟨hiv,a,o,h1,h2⟩:=this
  rw[List.take_length]at h1
  rw[okE_end ho h1]at h2
  match st,h2 with
  | [x],_=>exact hiv x (List.mem_singleton.2 rfl)
theorem eval_Iv{e:List EN}{r:List Val}(hr:rgR r)(hE:rgE e)(h:(evalF e r).2=0):Iv (evalF e r).1:=by
 unfold evalF at *
 cases ho:okE e with
 | false=>exact Iv_zero
 | true=>
  rw[ho]at h
  simp only[Bool.true_eq_false,if_false]at h ⊢
  split
  ·exact Iv_zero
  ·rename_i hb
   rw[if_neg hb]at h
   have hany:∀ c∈colsF e,c < r.length∧plainV (r.getD c.toNat zeroV)=true:=fun c hc=>by
    have:=List.any_eq_false.1 (Bool.eq_false_iff.2 hb) c hc
    simp only[Bool.or_eq_true,decide_eq_true_eq,Bool.not_eq_true',not_or,Bool.not_eq_false]at this
    exact ⟨by omega,this.2⟩
   rcases over_inv (z:=zeroV) ho Iv (fun n hne l hl hcn hI _=>eval1_Iv hr hE hany n hne l hl hcn hI) h with h1|⟨no,h0,h1⟩
   ·exact h1
   ·rw[h1];exact Iv_zero
end Go.AM
section
namespace Go.AM
open P
set_option maxHeartbeats 8000000
set_option maxRecDepth 8000
attribute [local simp] condRun_if when_if
def rgL(rs:List (List Val)):Prop:=∀ r∈rs,rgR r
noncomputable def argsG(e:List EN)(_:Nat)(r:List Val)(s:Nat×Int×List Val):(Nat×Int×List Val)⊕Unit:=
 if (evalF e r).2=140 then .inl (s.1,140,s.2.2) else if (evalF e r).2=0 then .inl (if (evalF e r).1.k=0 then s else (s.1+1,s.2.1,s.2.2++[(evalF e r).1])) else .inr ()
noncomputable def oddE(e:List EN)(r:List Val):Bool:=(evalF e r).2 != 0&&(evalF e r).2 != 140
noncomputable def faultE(e:List EN)(r:List Val):Bool:=(evalF e r).2 == 140
noncomputable def valE(e:List EN)(r:List Val):List Val:=if (evalF e r).2=0∧(evalF e r).1.k≠0 then [(evalF e r).1] else []
noncomputable def argsF(e:List EN)(rs:List (List Val)):List Val×Int:=
 if rs.any (oddE e) then ([],2) else (rs.flatMap (valE e),if rs.any (faultE e) then 140 else 0)
theorem args_fold(e:List EN):∀ (m:List (List Val)) k ep f acc,∃ ep',foldL (argsG e) m k (ep,f,acc)=if m.any (oddE e) then .inr () else .inl (ep',if m.any (faultE e) then 140 else f,acc++m.flatMap (valE e))
 | [],k,ep,f,acc=>⟨ep,by simp[foldL]⟩
 | r::m,k,ep,f,acc=>by
  by_cases h1:(evalF e r).2=140
  ·obtain ⟨ep',h⟩:=args_fold e m (k+1) ep 140 acc
   refine ⟨ep',?_⟩
   simp only[foldL,argsG,if_pos h1,h]
   simp[oddE,faultE,valE,h1]
  ·by_cases h2:(evalF e r).2=0
   ·by_cases h3:(evalF e r).1.k=0
    ·obtain ⟨ep',h⟩:=args_fold e m (k+1) ep f acc
     refine ⟨ep',?_⟩
     simp only[foldL,argsG,if_neg h1,if_pos h2,if_pos h3,h]
     simp[oddE,faultE,valE,h2,h3]
    ·obtain ⟨ep',h⟩:=args_fold e m (k+1) (ep+1) f (acc++[(evalF e r).1])
     refine ⟨ep',?_⟩
     simp only[foldL,argsG,if_neg h1,if_pos h2,if_neg h3,h]
     simp[oddE,faultE,valE,h2,h3]
   ·refine ⟨0,?_⟩
    simp only[foldL,argsG,if_neg h1,if_neg h2]
    simp[oddE,h1,h2]
theorem args_v(a:AggX)(b:Bool)(rs:List (List Val))(hn:rs.length≤most)(ha:a.arg.length≤most)(hr:rgL rs)(hE:rgE a.arg) :
  pcall I.qbd [a.a,.imm b (rs.map rowX)]=some (.tup [.imm false ((argsF a.arg rs).1.map Val.a),.int .i64 (argsF a.arg rs).2]):=by
 rw[pcall_eq c_qbd rfl]
 have hev:∀ c,∀ r∈rs,pcall I.qcw [.agg [.imm c (a.arg.map EN.a)],rowX r]=some (.tup [(evalF a.arg r).1.a,.int .i64 (evalF a.arg r).2]):=fun c r h=>eval_v c a.arg false r ha (hr r h) hE
 have h:=rounds_list (base:=2) (clr:=[3,4,7,8,9,13,14,15,16]) (b:=l_qbd_0) rs
  (fun k (s:Nat×Int×List Val)=>⟨[a.a,.imm b (rs.map rowX),.ptr 0 0 0 0,.any,.any,.sl 1 s.1 0 s.2.2.length,.int .i64 s.2.1,.any,.any,.any,.imm b (rs.map rowX),.int .i64 rs.length,.int .i64 k,.any,.any,.any,.any],[.arr 2 0 [a.a],.arr 4 s.1 (s.2.2.map Val.a)]⟩)
  (fun k s=>s.2.2.length≤k) (argsG a.arg)
  (fun s=>(.ext 0,⟨[a.a,.imm b (rs.map rowX),.ptr 0 0 0 0,.any,.any,.sl 1 s.1 0 s.2.2.length,.int .i64 s.2.1,.any,.any,.any,.imm b (rs.map rowX),.int .i64 rs.length,.int .i64 rs.length,.bool false,.any,.any,.any],[.arr 2 0 [a.a],.arr 4 s.1 (s.2.2.map Val.a)]⟩))
  (fun (_:Unit) o=>∃ s,o=(.ret,s)∧thenLeave .pure [.env 3,.env 4] (some (.ret,s))=some (.tup [.imm false [],.int .i64 2]))
  (fun k r s hk hy hi=>by
   obtain ⟨ep,f,acc⟩:=s
   simp only at hi
   have hlt:((k:Int) < (rs.length:Int)):=by omega
   have h2:=fun c=>hev c r (List.mem_of_getElem? hy)
   have hl1:acc.length+1≤most:=by omega
   unfold argsG
   generalize evalF a.arg r=p at *
   obtain ⟨⟨vk,vn,vu,vs⟩,no⟩:=p
   simp only[a_mk,AggX.a]at *
   by_cases c1:no=140
   ·subst c1
    exact ⟨by simp[l_qbd_0,hlt,hy,h2,wrap_lt hk hn,roundEnd,freezeObj],by simp only;omega⟩
   ·by_cases c2:no=0
    ·subst c2
     by_cases c3:vk=0
     ·subst c3
      exact ⟨by simp[l_qbd_0,hlt,hy,h2,wrap_lt hk hn,roundEnd,freezeObj],by simp only;simp;omega⟩
     ·simp only[if_neg c3]
      exact ⟨by simp[l_qbd_0,hlt,hy,h2,c3,bne_t c3,append,hl1,wrap_lt hk hn,roundEnd,freezeObj,Val.a],by simp;omega⟩
    ·simp only[if_neg c1,if_neg c2]
     exact ⟨_,by simp[l_qbd_0,hlt,hy,h2,beq_f c1,bne_t c2];rfl,_,rfl,by simp⟩)
  (fun s _=>by simp[l_qbd_0]) (0,0,[]) (Nat.le_refl _)
 obtain ⟨ep',hf⟩:=args_fold a.arg rs 0 0 0 []
 rw[hf]at h
 unfold argsF
 cases ho:rs.any (oddE a.arg) with
 | true=>
  rw[ho]at h
  simp only[if_true]at h ⊢
  obtain ⟨o,h1,s,rfl,h2⟩:=h
  simp only[AggX.a]at *
  simp at h1
  simp[f_qbd,b_qbd,h1,-thenLeave_ret]
  exact h2
 | false=>
  rw[ho]at h
  simp only[Bool.false_eq_true,if_false,List.nil_append]at h ⊢
  have h1:=h.2
  generalize rs.flatMap (valE a.arg)=acc at *
  generalize (if rs.any (faultE a.arg)=true then (140:Int) else 0)=f at *
  simp only[AggX.a]at *
  simp at h1
  simp[f_qbd,b_qbd,h1]
end Go.AM
end
section
namespace Go.AM
open P
set_option maxHeartbeats 8000000
set_option maxRecDepth 8000
attribute [local simp] condRun_if when_if
def minF(c:Val→Val→Int)(m:Val)(l:List Val):Val:=l.foldl (fun m v=>if c v m < 0 then v else m) m
theorem minF_mem(c:Val→Val→Int):∀ (l:List Val) (m:Val),minF c m l=m∨minF c m l∈l
 | [],m=>.inl rfl
 | v::l,m=>by
  rcases minF_mem c l (if c v m < 0 then v else m) with h|h
  ·have e:minF c m (v::l)=minF c (if c v m < 0 then v else m) l:=rfl
   rw[e,h]
   split<;>simp
  ·exact .inr (List.mem_cons_of_mem _ h)
theorem MinFunc_v(b:Bool)(v:Val)(l:List Val)(f:AVal)(c:Val→Val→Int)(hs:Still f)(hn:l.length+1≤most)(hf:∀ x∈v::l,∀ y∈v::l,∀ σ,acallV code f [x.a,y.a] σ=some (.int .i64 (c x y),σ)) :
  pcall I.qgn [.imm b ((v::l).map Val.a),f]=some (minF c v l).a:=by
 rw[pcall_eq c_qgn rfl]
 have hs0:=hs []
 have h:=rounds_fold (base:=2) (clr:=[6,7]) (b:=l_qgn_0) l
  (fun k (m:Val)=>⟨[.imm b ((v::l).map Val.a),f,.ptr 0 0 0 0,.ptr 1 0 0 0,.int .i64 ((k:Int)+1),.bool false,.any,.any],[.arr 4 0 [zeroV.a],.arr 4 0 [m.a]]⟩)
  (fun _ m=>m∈v::l) (fun m x=>if c x m < 0 then x else m)
  (fun m=>(.ext 0,⟨[.imm b ((v::l).map Val.a),f,.ptr 0 0 0 0,.ptr 1 0 0 0,.int .i64 ((l.length:Int)+1),.bool false,.bool false,.any],[.arr 4 0 [zeroV.a],.arr 4 0 [m.a]]⟩))
  (fun k x m hk hy hm=>by
   have hx:x∈v::l:=List.mem_cons_of_mem _ (List.mem_of_getElem? hy)
   have h2:=hf x hx m hm
   have hlt:((k:Int)+1 < (l.length:Int)+1):=by omega
   have hnn:¬((k:Int)+1 < 0):=by omega
   have hw:IntKind.i64.wrap ((k:Int)+1+1)=(k:Int)+1+1:=wrap64_id (by unfold most at hn;omega)
   have ht:((k:Int)+1).toNat=k+1:=by omega
   have h0:(0:Int)≤(k:Int)+1:=by omega
   by_cases hc:c x m < 0
   ·refine ⟨?_,by simp only[if_pos hc];exact hx⟩
    simp[l_qgn_0,hlt,hy,h2,hc,hw,ht,h0,roundEnd,freezeObj]
   ·refine ⟨?_,by simp only[if_neg hc];exact hm⟩
    simp[l_qgn_0,hlt,hy,h2,hc,hw,ht,h0,roundEnd,freezeObj])
  (fun m _=>by simp[l_qgn_0]) v (by simp)
 have h:=h.1
 unfold minF
 generalize l.foldl (fun m x=>if c x m < 0 then x else m) v=m at *
 have hlen:¬((l.length:Int)+1 < 1):=by omega
 simp[zeroV,Val.a]at h
 simp only[Val.a]
 simp[f_qgn,b_qgn,hs0,hlen,h,Val.a]
def maxF(c:Val→Val→Int)(m:Val)(l:List Val):Val:=l.foldl (fun m v=>if 0 < c v m then v else m) m
theorem maxF_mem(c:Val→Val→Int):∀ (l:List Val) (m:Val),maxF c m l=m∨maxF c m l∈l
 | [],m=>.inl rfl
 | v::l,m=>by
  rcases maxF_mem c l (if 0 < c v m then v else m) with h|h
  ·have e:maxF c m (v::l)=maxF c (if 0 < c v m then v else m) l:=rfl
   rw[e,h]
   split<;>simp
  ·exact .inr (List.mem_cons_of_mem _ h)
theorem MaxFunc_v(b:Bool)(v:Val)(l:List Val)(f:AVal)(c:Val→Val→Int)(hs:Still f)(hn:l.length+1≤most)(hf:∀ x∈v::l,∀ y∈v::l,∀ σ,acallV code f [x.a,y.a] σ=some (.int .i64 (c x y),σ)) :
  pcall I.qgm [.imm b ((v::l).map Val.a),f]=some (maxF c v l).a:=by
 rw[pcall_eq c_qgm rfl]
 have hs0:=hs []
 have h:=rounds_fold (base:=2) (clr:=[6,7]) (b:=l_qgm_0) l
  (fun k (m:Val)=>⟨[.imm b ((v::l).map Val.a),f,.ptr 0 0 0 0,.ptr 1 0 0 0,.int .i64 ((k:Int)+1),.bool false,.any,.any],[.arr 4 0 [zeroV.a],.arr 4 0 [m.a]]⟩)
  (fun _ m=>m∈v::l) (fun m x=>if 0 < c x m then x else m)
  (fun m=>(.ext 0,⟨[.imm b ((v::l).map Val.a),f,.ptr 0 0 0 0,.ptr 1 0 0 0,.int .i64 ((l.length:Int)+1),.bool false,.bool false,.any],[.arr 4 0 [zeroV.a],.arr 4 0 [m.a]]⟩))
  (fun k x m hk hy hm=>by
   have hx:x∈v::l:=List.mem_cons_of_mem _ (List.mem_of_getElem? hy)
   have h2:=hf x hx m hm
   have hlt:((k:Int)+1 < (l.length:Int)+1):=by omega
   have hnn:¬((k:Int)+1 < 0):=by omega
   have hw:IntKind.i64.wrap ((k:Int)+1+1)=(k:Int)+1+1:=wrap64_id (by unfold most at hn;omega)
   have ht:((k:Int)+1).toNat=k+1:=by omega
   have h0:(0:Int)≤(k:Int)+1:=by omega
   by_cases hc:0 < c x m
   ·refine ⟨?_,by simp only[if_pos hc];exact hx⟩
    simp[l_qgm_0,hlt,hy,h2,hc,hw,ht,h0,roundEnd,freezeObj]
   ·refine ⟨?_,by simp only[if_neg hc];exact hm⟩
    simp[l_qgm_0,hlt,hy,h2,hc,hw,ht,h0,roundEnd,freezeObj])
  (fun m _=>by simp[l_qgm_0]) v (by simp)
 have h:=h.1
 unfold maxF
 generalize l.foldl (fun m x=>if 0 < c x m then x else m) v=m at *
 have hlen:¬((l.length:Int)+1 < 1):=by omega
 simp[zeroV,Val.a]at h
 simp only[Val.a]
 simp[f_qgm,b_qgm,hs0,hlen,h,Val.a]
end Go.AM
end
section
namespace Go.AM
open P
set_option maxHeartbeats 8000000
set_option maxRecDepth 8000
attribute [local simp] condRun_if when_if
def sumL(l:List Val):Option Int:=l.foldl sumF none
theorem sumF_sz{k:Nat}{s:Option Int}{v:Val}(hs:-(9223372036854775808 * (k:Int))≤s.getD 0∧s.getD 0≤9223372036854775808 * (k:Int))(hv:rg v.n) :
  -(9223372036854775808 * ((k+1:Nat):Int))≤(sumF s v).getD 0∧(sumF s v).getD 0≤9223372036854775808 * ((k+1:Nat):Int):=by
 unfold rg at hv
 unfold sumF
 split
 ·omega
 ·simp only[Option.getD_some];omega
theorem szO_of{k:Nat}{s:Option Int}(hk:k≤most)(hs:-(9223372036854775808 * (k:Int))≤s.getD 0∧s.getD 0≤9223372036854775808 * (k:Int)):szO s:=by
 unfold most at hk
 unfold szO sz
 omega
theorem All_v(b:Bool)(l:List Val)(hn:l.length≤1048576)(hv:∀ v∈l,badS v=0∧rg v.n):pcall I.qc [.imm b (l.map Val.a)]=some (.tup [(endF (sumL l)).1.a,.int .i64 (endF (sumL l)).2]):=by
 rw[pcall_eq c_qc rfl]
 have hm:l.length≤most:=by unfold most;omega
 have h:=rounds_fold (base:=2) (clr:=[2,4,5,6,11,12]) (b:=l_qc_0) l
  (fun k (s:Option Int)=>⟨[.imm b (l.map Val.a),.ptr 0 0 0 0,.any,.ptr 1 0 0 0,.any,.any,.any,.bool false,.imm b (l.map Val.a),.int .i64 l.length,.int .i64 k,.any,.any],[.arr 4 0 [zeroV.a],.arr 4 0 [(stV s).a]]⟩)
  (fun k s=>-(9223372036854775808 * (k:Int))≤s.getD 0∧s.getD 0≤9223372036854775808 * (k:Int)) sumF
  (fun s=>(.ext 0,⟨[.imm b (l.map Val.a),.ptr 0 0 0 0,.any,.ptr 1 0 0 0,.any,.any,.any,.bool false,.imm b (l.map Val.a),.int .i64 l.length,.int .i64 l.length,.bool false,.any],[.arr 4 0 [zeroV.a],.arr 4 0 [(stV s).a]]⟩))
  (fun k v s hk hy hs=>by
   have hlt:((k:Int) < (l.length:Int)):=by omega
   obtain ⟨h1,h2⟩:=hv v (List.mem_of_getElem? hy)
   refine ⟨?_,sumF_sz hs h2⟩
   have h3:=Sum_v s v (szO_of (by omega) hs) h2
   rw[h1]at h3
   simp only[if_true]at h3
   generalize stV s=S at *
   generalize stV (sumF s v)=S' at *
   simp only[Val.a]at h3
   simp[l_qc_0,hlt,hy,h3,wrap_lt hk hm,roundEnd,freezeObj,Val.a])
  (fun s _=>by simp[l_qc_0]) none (by simp)
 obtain ⟨h1,h2⟩:=h
 have h3:=End_v (sumL l) (szO_of hm h2)
 unfold sumL at *
 generalize l.foldl sumF none=s at *
 have hgt:¬((1048576:Int) < l.length):=by omega
 generalize stV s=S at *
 simp only[stV]at *
 simp only[Val.a,zeroV]at *
 simp at h1
 simp[f_qc,b_qc,hgt,h1,h3,Val.a,zeroV]
end Go.AM
end
section
namespace Go.AM
open P
set_option maxHeartbeats 8000000
set_option maxRecDepth 8000
attribute [local simp] condRun_if when_if
@[simp] theorem agg1_v(k n u:Int)(s:List UInt8):pcall I.qbc [.agg [.int .i64 k,.int .i64 n,.int .u64 u,.str s]]=some (.bool (!(k == 2))):=by
 rw[pcall_eq c_qbc rfl]
 simp[f_qbc,b_qbc,bne]
def leastF(l:List Val):Val:=match l with
 | []=>zeroV
 | v::r=>minF cmpV v r
def greatestF(l:List Val):Val:=match l with
 | []=>zeroV
 | v::r=>maxF cmpV v r
noncomputable def aggF(tag:Int)(e:List EN)(rs:List (List Val)):Val×Int:=
 if tag=1 then (intVal rs.length,0) else if (argsF e rs).2=2 then (zeroV,2) else if tag=3∧(argsF e rs).1.any (fun v=>!(v.k == 2))=true then (zeroV,2)
 else if (argsF e rs).2≠0 then (zeroV,(argsF e rs).2) else if tag=2 then (intVal (argsF e rs).1.length,0) else if tag=3 then endF (sumL (argsF e rs).1)
 else if tag=4 then (leastF (argsF e rs).1,0) else (greatestF (argsF e rs).1,0)
theorem argsF_Iv{e:List EN}{rs:List (List Val)}(hr:rgL rs)(hE:rgE e):∀ v∈(argsF e rs).1,Iv v:=by
 intro v hv
 unfold argsF at hv
 split at hv
 ·cases hv
 ·obtain ⟨r,hr',hv⟩:=List.mem_flatMap.1 hv
  unfold valE at hv
  split at hv
  ·rename_i h
   rw[List.mem_singleton.1 hv]
   exact eval_Iv (hr r hr') hE h.1
  ·cases hv
theorem argsF_len(e:List EN)(rs:List (List Val)):(argsF e rs).1.length≤rs.length:=by
 unfold argsF
 split
 ·simp
 ·simp only
  rename_i h
  clear h
  induction rs with
  | nil=>simp
  | cons r rs ih=>
   rw[List.flatMap_cons,List.length_append,List.length_cons]
   have:(valE e r).length≤1:=by unfold valE;split<;>simp
   omega
theorem Iv_ok{v:Val}(h:Iv v):okV v=true:=by
 have:=h.1
 unfold plainV at this
 simp at this
 exact this.1
theorem aggregate_v(a:AggX)(b:Bool)(rs:List (List Val))(hn:rs.length≤8000)(ha:a.arg.length≤most)(hr:rgL rs)(hE:rgE a.arg) :
  pcall I.qbb [a.a,.imm b (rs.map rowX)]=some (.tup [(aggF a.tag a.arg rs).1.a,.int .i64 (aggF a.tag a.arg rs).2]):=by
 rw[pcall_eq c_qbb rfl]
 have hm:rs.length≤most:=by unfold most;omega
 have h1:=fun b=>args_v a b rs hm ha hr hE
 have hI:=argsF_Iv (e:=a.arg) (rs:=rs) hr hE
 have hl:=argsF_len a.arg rs
 unfold aggF
 generalize argsF a.arg rs=q at *
 obtain ⟨l,f⟩:=q
 simp only at *
 have hC:=fun b=>Contains_api_Value_api_Value (enc:=Val.a) (b:=b) (l:=l) (f:=.fn I.qbc [] []) (p:=fun v=>!(v.k == 2)) (by omega) (fun _=>⟨rfl,rfl⟩) (fun σ=>by simp) (fun v _=>by
  obtain ⟨k,n,u,s⟩:=v
  simp[a_mk])
 by_cases t1:a.tag=1
 ·rw[if_pos t1]
  simp only[AggX.a,t1,intVal,Val.a]
  simp[f_qbb,b_qbb,intVal,Val.a]
 ·rw[if_neg t1]
  by_cases f2:f=2
  ·rw[if_pos f2]
   subst f2
   simp only[AggX.a,Val.a,zeroV]at *
   simp[f_qbb,b_qbb,beq_f t1,h1]
  ·rw[if_neg f2]
   by_cases t3:a.tag=3
   ·by_cases ho:l.any (fun v=>!(v.k == 2))=true
    ·rw[if_pos ⟨t3,ho⟩]
     simp only[ho]at hC
     simp only[AggX.a,t3]at *
     simp[f_qbb,b_qbb,h1,beq_f f2,hC,zeroV,Val.a]
    ·rw[if_neg (fun h=>ho h.2)]
     have ho':=Bool.eq_false_iff.2 ho
     simp only[ho']at hC
     by_cases f0:f=0
     ·subst f0
      have hA:=fun b=>All_v b l (by omega) (fun v hv=>by
       have h2:=hI v hv
       have h3:=List.any_eq_false.1 ho' v hv
       simp at h3
       refine ⟨?_,h2.2⟩
       unfold badS
       rw[Iv_ok h2]
       simp[h3])
      simp only[AggX.a,t3]at *
      simp[f_qbb,b_qbb,h1,hC,hA,Val.a]
     ·rw[if_pos f0]
      simp only[AggX.a,t3]at *
      simp[f_qbb,b_qbb,h1,hC,beq_f f2,bne_t f0,zeroV,Val.a]
   ·rw[if_neg (fun h=>t3 h.1)]
    by_cases f0:f=0
    ·subst f0
     rw[if_neg (by simp)]
     by_cases t2:a.tag=2
     ·rw[if_pos t2]
      simp only[AggX.a,t2]at *
      simp[f_qbb,b_qbb,h1,intVal,Val.a]
     ·rw[if_neg t2,if_neg t3]
      cases l with
      | nil=>
       simp only[AggX.a,leastF,greatestF]at *
       simp[f_qbb,b_qbb,beq_f t1,beq_f t2,beq_f t3,h1,zeroV,Val.a]
      | cons v l=>
       have hlen:((l.length:Int)+1 == 0)=false:=by rw[beq_eq_false_iff_ne];omega
       have hlen2:¬((l.length:Int)+1=0):=by omega
       have hcmp:∀ x∈v::l,∀ y∈v::l,∀ σ,acallV code (.fn I.qbl [] []) [x.a,y.a] σ=some (.int .i64 (cmpV x y),σ):=fun x hx y hy σ=>by
        have:=dvalues_spec x y (Iv_ok (hI x hx)) (Iv_ok (hI y hy))
        simp[this]
       simp only[List.length_cons]at hl
       have hMin:=fun b=>MinFunc_v b v l (.fn I.qbl [] []) cmpV (fun σ=>by simp) (by omega) hcmp
       have hMax:=fun b=>MaxFunc_v b v l (.fn I.qbl [] []) cmpV (fun σ=>by simp) (by omega) hcmp
       simp only[leastF,greatestF]
       generalize minF cmpV v l=vm at *
       generalize maxF cmpV v l=vM at *
       simp only[List.map_cons,Val.a]at hMin hMax
       by_cases t4:a.tag=4
       ·rw[if_pos t4]
        simp only[AggX.a,t4]at *
        simp[f_qbb,b_qbb,h1,hMin,hlen,hlen2,Val.a]
       ·rw[if_neg t4]
        simp only[AggX.a]at *
        simp[f_qbb,b_qbb,beq_f t1,beq_f t2,beq_f t3,beq_f t4,h1,hMax,hlen,hlen2,Val.a]
    ·rw[if_pos f0]
     simp only[AggX.a]at *
     simp[f_qbb,b_qbb,beq_f t1,beq_f t3,beq_f f2,bne_t f0,h1,zeroV,Val.a]
def aggOk(tag:Int)(e:List EN)(rs:List (List Val)):Bool:=decide (1≤tag)&&decide (tag≤5)&&rs.all okR&&(if tag=1 then e.length == 0 else okE e)
noncomputable def AggF(tag:Int)(e:List EN)(rs:List (List Val)):Val×Int:=if aggOk tag e rs=true then aggF tag e rs else (zeroV,2)
theorem Aggregate_v(a:AggX)(b:Bool)(rs:List (List Val))(hn:rs.length≤8000)(ha:a.arg.length≤most)(hr:rgL rs)(hE:rgE a.arg) :
  pcall I.qay [a.a,.imm b (rs.map rowX)]=some (.tup [(AggF a.tag a.arg rs).1.a,.int .i64 (AggF a.tag a.arg rs).2]):=by
 rw[pcall_eq c_qay rfl]
 have h1:=fun b=>aggregate_v a b rs hn ha hr hE
 have h2:=fun b=>rights_spec b false rs hn
 simp only[rowsA_X]at h2
 have h3:=fun b=>eCheck_spec b a.arg ha
 simp only[exprA,ensA]at h3
 unfold AggF aggOk
 by_cases t1:1≤a.tag
 ·by_cases t5:a.tag≤5
  ·cases hR:rs.all okR with
   | false=>
    rw[hR]at h2
    by_cases e1:a.tag=1
    ·simp only[AggX.a,e1]at *
     simp[f_qay,b_qay,h2,zeroV,Val.a]
    ·simp only[AggX.a]at *
     simp[f_qay,b_qay,t1,t5,beq_f e1,h2,zeroV,Val.a]
   | true=>
    rw[hR]at h2
    by_cases e1:a.tag=1
    ·obtain ⟨tag,ab,arg⟩:=a
     simp only at *
     subst e1
     cases arg with
     | nil=>
      simp only[AggX.a,List.map_nil]at *
      simp[f_qay,b_qay,h2,h1,Val.a]
     | cons n r=>
      have e3:((r.length:Int)+1 == 0)=false:=by rw[beq_eq_false_iff_ne];omega
      simp only[AggX.a]at *
      simp[f_qay,b_qay,h2,zeroV,Val.a,e3]
    ·cases ho:okE a.arg with
     | false=>
      rw[ho]at h3
      simp only[AggX.a]at *
      simp[f_qay,b_qay,t1,t5,beq_f e1,e1,h2,h3,zeroV,Val.a]
     | true=>
      rw[ho]at h3
      simp only[AggX.a]at *
      simp[f_qay,b_qay,t1,t5,beq_f e1,e1,h2,h3,h1,Val.a]
  ·have e1:¬a.tag=1:=by omega
   simp only[AggX.a]at *
   simp[f_qay,b_qay,t1,t5,beq_f e1,zeroV,Val.a]
 ·have e1:¬a.tag=1:=by omega
  simp only[AggX.a]at *
  simp[f_qay,b_qay,t1,beq_f e1,zeroV,Val.a]
end Go.AM
end
