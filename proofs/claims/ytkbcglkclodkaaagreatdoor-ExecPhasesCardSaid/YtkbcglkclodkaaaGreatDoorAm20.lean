/- Part of the proof. -/
import Derived.Test.YtkbcglkclodkaaaGreatDoorAm19
import Derived.Test.YtkbcglkclodkaaaGreatDoorAm17
import Derived.Test.YtkbcglkclodkaaaGreatDoorAm18
set_option linter.unusedVariables false
set_option linter.unusedSimpArgs false
section
namespace Go.AM
open P
set_option maxHeartbeats 16000000
set_option maxRecDepth 8000
attribute [local simp] condRun_if when_if
theorem takes0_wide(E:TkE)(h:Tk E 0 [])(hA:E.n.l=-1∧E.n.r=-1)(hc:RootFine E)(r:AVal)(bf:Bool)(res:List Int)(X:Store)(hR:ResOk X r bf res)
  (hask:acallV code E.ask [.ptr 0 0 0 0] (E.st .nil0 .nil0 E.r0 (-1) (-1))=some (.bool true,E.st .nil0 .nil0 r (-1) (-1)++X)) (hw:16 < res.length):∃ σ',E.call=some (.bool false,σ'):=by
 unfold TkE.call
 rw[acall_keep c_qej rfl]
 obtain ⟨hp,hbs,z1,z2,z3,z4,z5,z7,z8,z9,hd',zw,z6⟩:=tk0 h
 have hi:=h.hi
 have hB:=h.hB
 simp only[LNX.a]at hbs
 have c1:((-1) == E.n.l)=true:=by simp[hA.1]
 have c2:((-1) == E.n.r)=true:=by simp[hA.2]
 have hw':(16:Int) < (res.length:Int):=by omega
 rcases hc with ⟨q1,q2,q3⟩|⟨q1,q2,q3⟩|⟨q1,q2,q3⟩<;>exact ⟨_,by simp[f_qej,b_qej,hi,LNX.a,hp,hbs,c1,c2,z1,z2,z3,z4,z5,z6,z7,z8,z9,hd',zw,l_qej_0,rounds_go0,roundEnd,freezeObj,hB,wr1,wr2,q1,q2,q3,hask,hw',-alen,alen_imm,alen_lst,alen_nil0,alen_sl,hR.len,hR.nc,hR.ag];rfl⟩
theorem takes0_yes(E:TkE)(h:Tk E 0 [])(hkn:E.kinds.length+1≤most)(hol2:E.opn.length+1≤most)(hA:E.n.l=-1∧E.n.r=-1)(hc:RootFine E)(r:AVal)(bf:Bool)(res:List Int)(X:Store)(hR:ResOk X r bf res)
  (hask:acallV code E.ask [.ptr 0 0 0 0] (E.st .nil0 .nil0 E.r0 (-1) (-1))=some (.bool true,E.st .nil0 .nil0 r (-1) (-1)++X)) (hw:res.length≤16) :
  E.call=some (.bool true,laidX E.bn E.nodes (E.ep1+1) (E.kinds.length+1) (E.ep2+1) (E.opn.length - 0+1) E.n .nil0 .nil0 r::.arr 1 (E.ep1+1) (E.kinds.map (SlX.c (.int .i64))++[r])::.arr 1 (E.ep2+1) (natsI (E.opn.take (E.opn.length - 0))++[.int .i64 E.i])::E.B::grpO E.n::atO (-1) (-1)::X):=by
 unfold TkE.call
 rw[acall_keep c_qej rfl]
 obtain ⟨hp,hbs,z1,z2,z3,z4,z5,z7,z8,z9,hd',zw,z6⟩:=tk0 h
 have hi:=h.hi
 have hB:=h.hB
 simp only[LNX.a]at hbs
 have c1:((-1) == E.n.l)=true:=by simp[hA.1]
 have c2:((-1) == E.n.r)=true:=by simp[hA.2]
 have hw':¬((16:Int) < (res.length:Int)):=by omega
 have hm2:E.opn.length - 0+1≤most:=by omega
 have hol:=h.hol
 rcases hc with ⟨q1,q2,q3⟩|⟨q1,q2,q3⟩|⟨q1,q2,q3⟩<;>simp[f_qej,b_qej,hi,LNX.a,hp,hbs,c1,c2,z1,z2,z3,z4,z5,z6,z7,z8,z9,hd',zw,l_qej_0,rounds_go0,roundEnd,freezeObj,hB,wr1,wr2,q1,q2,q3,hask,hw',-alen,alen_imm,alen_lst,alen_nil0,alen_sl,hR.len,hR.nc,hR.ag,append,hkn,hm2,hol,hol2]
theorem takes1_wide(E:TkE)(p:Nat)(h:Tk E 1 [p])(hA:E.n.l=(p:Int)∧E.n.r=-1)(ka:SlX Int)(hka:E.kinds[p]?=some ka)(hla:ka.l.length≤most)(h4:((E.n.op != 11)&&sum4 ka.l)=false)(hc:RootFine E)(r:AVal)(bf:Bool)(res:List Int)(X:Store)(hR:ResOk X r bf res)
  (hask:acallV code E.ask [.ptr 0 0 0 0] (E.st (.imm ka.b (intsA ka.l)) .nil0 E.r0 (p:Int) (-1))=some (.bool true,E.st (.imm ka.b (intsA ka.l)) .nil0 r (p:Int) (-1)++X)) (hw:16 < res.length):∃ σ',E.call=some (.bool false,σ'):=by
 unfold TkE.call
 rw[acall_keep c_qej rfl]
 obtain ⟨hp,hbs,z1,z2,z3,z4,z5,z7,z8,z9,hd',zw,z6,y0⟩:=tk1 h
 have hi:=h.hi
 have hB:=h.hB
 simp only[LNX.a]at hbs
 have c1:((p:Int) == E.n.l)=true:=by simp[hA.1]
 have c2:((-1) == E.n.r)=true:=by simp[hA.2]
 obtain ⟨hla0,hga⟩:=List.getElem?_eq_some_iff.1 hka
 have ga:(E.n.op != 11)=true→∀ b,pcall I.qfz [.imm b (intsA ka.l),.int .i64 4]=some (.bool false):=fun e b=>by
  have:=Contains_int b ka.l 4 hla
  rwa [show (ka.l.any fun y=>4 == y)=false by rw[e]at h4;exact h4]at this
 have hw':(16:Int) < (res.length:Int):=by omega
 rcases hc with ⟨q1,q2,q3⟩|⟨q1,q2,q3⟩|⟨q1,q2,q3⟩<;>cases h12:(E.n.op != 11)<;>first|(have ga:=ga h12;exact ⟨_,by simp[f_qej,b_qej,hi,LNX.a,hp,hbs,c1,c2,z1,z2,z3,z4,z5,z6,z7,z8,z9,hd',zw,l_qej_0,rounds_go0,roundEnd,freezeObj,hB,wr1,wr2,y0,hga,hla0,q1,q2,q3,hask,hw',-alen,alen_imm,alen_lst,alen_nil0,alen_sl,hR.len,hR.nc,hR.ag,h12,ga];rfl⟩)|exact ⟨_,by simp[f_qej,b_qej,hi,LNX.a,hp,hbs,c1,c2,z1,z2,z3,z4,z5,z6,z7,z8,z9,hd',zw,l_qej_0,rounds_go0,roundEnd,freezeObj,hB,wr1,wr2,y0,hga,hla0,q1,q2,q3,hask,hw',-alen,alen_imm,alen_lst,alen_nil0,alen_sl,hR.len,hR.nc,hR.ag,h12];rfl⟩
theorem takes1_yes(E:TkE)(p:Nat)(h:Tk E 1 [p])(hkn:E.kinds.length+1≤most)(hol2:E.opn.length+1≤most)(hA:E.n.l=(p:Int)∧E.n.r=-1)(ka:SlX Int)(hka:E.kinds[p]?=some ka)(hla:ka.l.length≤most)(h4:((E.n.op != 11)&&sum4 ka.l)=false)(hc:RootFine E)(r:AVal)(bf:Bool)(res:List Int)(X:Store)(hR:ResOk X r bf res)
  (hask:acallV code E.ask [.ptr 0 0 0 0] (E.st (.imm ka.b (intsA ka.l)) .nil0 E.r0 (p:Int) (-1))=some (.bool true,E.st (.imm ka.b (intsA ka.l)) .nil0 r (p:Int) (-1)++X)) (hw:res.length≤16) :
  E.call=some (.bool true,laidX E.bn E.nodes (E.ep1+1) (E.kinds.length+1) (E.ep2+1) (E.opn.length - 1+1) E.n (.imm ka.b (intsA ka.l)) .nil0 r::.arr 1 (E.ep1+1) (E.kinds.map (SlX.c (.int .i64))++[r])::.arr 1 (E.ep2+1) (natsI (E.opn.take (E.opn.length - 1))++[.int .i64 E.i])::E.B::grpO E.n::atO (p:Int) (-1)::X):=by
 unfold TkE.call
 rw[acall_keep c_qej rfl]
 obtain ⟨hp,hbs,z1,z2,z3,z4,z5,z7,z8,z9,hd',zw,z6,y0⟩:=tk1 h
 have hi:=h.hi
 have hB:=h.hB
 simp only[LNX.a]at hbs
 have c1:((p:Int) == E.n.l)=true:=by simp[hA.1]
 have c2:((-1) == E.n.r)=true:=by simp[hA.2]
 obtain ⟨hla0,hga⟩:=List.getElem?_eq_some_iff.1 hka
 have ga:(E.n.op != 11)=true→∀ b,pcall I.qfz [.imm b (intsA ka.l),.int .i64 4]=some (.bool false):=fun e b=>by
  have:=Contains_int b ka.l 4 hla
  rwa [show (ka.l.any fun y=>4 == y)=false by rw[e]at h4;exact h4]at this
 have hw':¬((16:Int) < (res.length:Int)):=by omega
 have hm2:E.opn.length - 1+1≤most:=by omega
 have hol:=h.hol
 rcases hc with ⟨q1,q2,q3⟩|⟨q1,q2,q3⟩|⟨q1,q2,q3⟩<;>cases h12:(E.n.op != 11)<;>first|(have ga:=ga h12;simp[f_qej,b_qej,hi,LNX.a,hp,hbs,c1,c2,z1,z2,z3,z4,z5,z6,z7,z8,z9,hd',zw,l_qej_0,rounds_go0,roundEnd,freezeObj,hB,wr1,wr2,y0,hga,hla0,q1,q2,q3,hask,hw',-alen,alen_imm,alen_lst,alen_nil0,alen_sl,hR.len,hR.nc,hR.ag,append,hkn,hm2,hol,hol2,h12,ga])|simp[f_qej,b_qej,hi,LNX.a,hp,hbs,c1,c2,z1,z2,z3,z4,z5,z6,z7,z8,z9,hd',zw,l_qej_0,rounds_go0,roundEnd,freezeObj,hB,wr1,wr2,y0,hga,hla0,q1,q2,q3,hask,hw',-alen,alen_imm,alen_lst,alen_nil0,alen_sl,hR.len,hR.nc,hR.ag,append,hkn,hm2,hol,hol2,h12]
theorem takes2_wide(E:TkE)(p q:Nat)(h:Tk E 2 [p,q])(hA:E.n.l=(p:Int)∧E.n.r=(q:Int))(ka:SlX Int)(hka:E.kinds[p]?=some ka)(hla:ka.l.length≤most)(kb:SlX Int)(hkb:E.kinds[q]?=some kb)(hlb:kb.l.length≤most)(h4:((E.n.op != 11)&&sum4 ka.l)=false)(h5:((E.n.op != 11)&&sum4 kb.l)=false)(hc:RootFine E)(r:AVal)(bf:Bool)(res:List Int)(X:Store)(hR:ResOk X r bf res)
  (hask:acallV code E.ask [.ptr 0 0 0 0] (E.st (.imm ka.b (intsA ka.l)) (.imm kb.b (intsA kb.l)) E.r0 (p:Int) (q:Int))=some (.bool true,E.st (.imm ka.b (intsA ka.l)) (.imm kb.b (intsA kb.l)) r (p:Int) (q:Int)++X)) (hw:16 < res.length):∃ σ',E.call=some (.bool false,σ'):=by
 unfold TkE.call
 rw[acall_keep c_qej rfl]
 obtain ⟨hp,hbs,z1,z2,z3,z4,z5,z7,z8,z9,hd',zw,z6,y0,y1⟩:=tk2 h
 have hi:=h.hi
 have hB:=h.hB
 simp only[LNX.a]at hbs
 have c1:((p:Int) == E.n.l)=true:=by simp[hA.1]
 have c2:((q:Int) == E.n.r)=true:=by simp[hA.2]
 obtain ⟨hla0,hga⟩:=List.getElem?_eq_some_iff.1 hka
 obtain ⟨hlb0,hgb⟩:=List.getElem?_eq_some_iff.1 hkb
 have ga:(E.n.op != 11)=true→∀ b,pcall I.qfz [.imm b (intsA ka.l),.int .i64 4]=some (.bool false):=fun e b=>by
  have:=Contains_int b ka.l 4 hla
  rwa [show (ka.l.any fun y=>4 == y)=false by rw[e]at h4;exact h4]at this
 have gb:(E.n.op != 11)=true→∀ b,pcall I.qfz [.imm b (intsA kb.l),.int .i64 4]=some (.bool false):=fun e b=>by
  have:=Contains_int b kb.l 4 hlb
  rwa [show (kb.l.any fun y=>4 == y)=false by rw[e]at h5;exact h5]at this
 have hw':(16:Int) < (res.length:Int):=by omega
 rcases hc with ⟨q1,q2,q3⟩|⟨q1,q2,q3⟩|⟨q1,q2,q3⟩<;>cases h12:(E.n.op != 11)<;>first|(have ga:=ga h12;have gb:=gb h12;exact ⟨_,by simp[f_qej,b_qej,hi,LNX.a,hp,hbs,c1,c2,z1,z2,z3,z4,z5,z6,z7,z8,z9,hd',zw,l_qej_0,rounds_go0,roundEnd,freezeObj,hB,wr1,wr2,y0,y1,hga,hla0,hgb,hlb0,q1,q2,q3,hask,hw',-alen,alen_imm,alen_lst,alen_nil0,alen_sl,hR.len,hR.nc,hR.ag,h12,ga,gb];rfl⟩)|exact ⟨_,by simp[f_qej,b_qej,hi,LNX.a,hp,hbs,c1,c2,z1,z2,z3,z4,z5,z6,z7,z8,z9,hd',zw,l_qej_0,rounds_go0,roundEnd,freezeObj,hB,wr1,wr2,y0,y1,hga,hla0,hgb,hlb0,q1,q2,q3,hask,hw',-alen,alen_imm,alen_lst,alen_nil0,alen_sl,hR.len,hR.nc,hR.ag,h12];rfl⟩
theorem takes2_yes(E:TkE)(p q:Nat)(h:Tk E 2 [p,q])(hkn:E.kinds.length+1≤most)(hol2:E.opn.length+1≤most)(hA:E.n.l=(p:Int)∧E.n.r=(q:Int))(ka:SlX Int)(hka:E.kinds[p]?=some ka)(hla:ka.l.length≤most)(kb:SlX Int)(hkb:E.kinds[q]?=some kb)(hlb:kb.l.length≤most)(h4:((E.n.op != 11)&&sum4 ka.l)=false)(h5:((E.n.op != 11)&&sum4 kb.l)=false)(hc:RootFine E)(r:AVal)(bf:Bool)(res:List Int)(X:Store)(hR:ResOk X r bf res)
  (hask:acallV code E.ask [.ptr 0 0 0 0] (E.st (.imm ka.b (intsA ka.l)) (.imm kb.b (intsA kb.l)) E.r0 (p:Int) (q:Int))=some (.bool true,E.st (.imm ka.b (intsA ka.l)) (.imm kb.b (intsA kb.l)) r (p:Int) (q:Int)++X)) (hw:res.length≤16) :
  E.call=some (.bool true,laidX E.bn E.nodes (E.ep1+1) (E.kinds.length+1) (E.ep2+1) (E.opn.length - 2+1) E.n (.imm ka.b (intsA ka.l)) (.imm kb.b (intsA kb.l)) r::.arr 1 (E.ep1+1) (E.kinds.map (SlX.c (.int .i64))++[r])::.arr 1 (E.ep2+1) (natsI (E.opn.take (E.opn.length - 2))++[.int .i64 E.i])::E.B::grpO E.n::atO (p:Int) (q:Int)::X):=by
 unfold TkE.call
 rw[acall_keep c_qej rfl]
 obtain ⟨hp,hbs,z1,z2,z3,z4,z5,z7,z8,z9,hd',zw,z6,y0,y1⟩:=tk2 h
 have hi:=h.hi
 have hB:=h.hB
 simp only[LNX.a]at hbs
 have c1:((p:Int) == E.n.l)=true:=by simp[hA.1]
 have c2:((q:Int) == E.n.r)=true:=by simp[hA.2]
 obtain ⟨hla0,hga⟩:=List.getElem?_eq_some_iff.1 hka
 obtain ⟨hlb0,hgb⟩:=List.getElem?_eq_some_iff.1 hkb
 have ga:(E.n.op != 11)=true→∀ b,pcall I.qfz [.imm b (intsA ka.l),.int .i64 4]=some (.bool false):=fun e b=>by
  have:=Contains_int b ka.l 4 hla
  rwa [show (ka.l.any fun y=>4 == y)=false by rw[e]at h4;exact h4]at this
 have gb:(E.n.op != 11)=true→∀ b,pcall I.qfz [.imm b (intsA kb.l),.int .i64 4]=some (.bool false):=fun e b=>by
  have:=Contains_int b kb.l 4 hlb
  rwa [show (kb.l.any fun y=>4 == y)=false by rw[e]at h5;exact h5]at this
 have hw':¬((16:Int) < (res.length:Int)):=by omega
 have hm2:E.opn.length - 2+1≤most:=by omega
 have hol:=h.hol
 rcases hc with ⟨q1,q2,q3⟩|⟨q1,q2,q3⟩|⟨q1,q2,q3⟩<;>cases h12:(E.n.op != 11)<;>first|(have ga:=ga h12;have gb:=gb h12;simp[f_qej,b_qej,hi,LNX.a,hp,hbs,c1,c2,z1,z2,z3,z4,z5,z6,z7,z8,z9,hd',zw,l_qej_0,rounds_go0,roundEnd,freezeObj,hB,wr1,wr2,y0,y1,hga,hla0,hgb,hlb0,q1,q2,q3,hask,hw',-alen,alen_imm,alen_lst,alen_nil0,alen_sl,hR.len,hR.nc,hR.ag,append,hkn,hm2,hol,hol2,h12,ga,gb])|simp[f_qej,b_qej,hi,LNX.a,hp,hbs,c1,c2,z1,z2,z3,z4,z5,z6,z7,z8,z9,hd',zw,l_qej_0,rounds_go0,roundEnd,freezeObj,hB,wr1,wr2,y0,y1,hga,hla0,hgb,hlb0,q1,q2,q3,hask,hw',-alen,alen_imm,alen_lst,alen_nil0,alen_sl,hR.len,hR.nc,hR.ag,append,hkn,hm2,hol,hol2,h12]
end Go.AM
end
section
namespace Go.AM
open P
set_option maxHeartbeats 8000000
set_option maxRecDepth 8000
attribute [local simp] condRun_if when_if
abbrev m32:Nat:=4294967296
structure NFit (n:LNX):Prop where
 kinds:n.kinds.length≤m32
 cond:n.cond.length≤m32
 keys:n.keys.length≤m32
 aggs:n.aggs.length≤m32
 args:∀ g∈n.aggs,g.arg.length≤m32
 items:n.items.length≤m32
 exprs:∀ e∈n.items,e.l.length≤m32
 ords:n.ords.length≤m32
def opF(nodes:List LNX)(n:LNX):List (SlX Int)→Option (SlX Int)
 | []=>if n.op=1 then (if scanF n then some ⟨n.bk,n.kinds⟩ else none) else if n.op=9 then (if inputF n then some ⟨n.bk,n.kinds⟩ else none) else none
 | [a]=>
  if n.op=3 then (if truthF n.cond a.l then some a else none)
  else if n.op=4 then ((keysF a.l n.keys).bind fun ks=>if aggsOk n a.l then some ⟨false,ks++n.aggs.map fun g=>(aggK a.l g).2⟩ else none)
  else if n.op=5 then ((itemsF a.l n.items).bind fun ks=>if 0 < ks.length then some ⟨false,ks⟩ else none)
  else if n.op=6 then some a
  else if n.op=8 then (if sortF n a.l then some a else none)
  else if n.op=10 then ((keysF a.l n.keys).bind fun ks=>if aggsOk n a.l then some ⟨false,ks++n.aggs.map (partK a.l)⟩ else none)
  else if n.op=11 then (nodes[n.l.toNat]?).bind fun m=>if finHead n m a.l&&(finKeys a.l 0 n.keys&&finAggs a.l n.keys.length n.aggs) then some ⟨false,finSet n.keys.length n.aggs a.l⟩ else none
  else none
 | [a,b]=>
  if n.op=2 then (if truthF n.cond (a.l++b.l) then some ⟨false,a.l++b.l⟩ else none)
  else if n.op=7 then (if a.l.length=b.l.length then (unionF a.l b.l).map fun ks=>⟨false,ks⟩ else none)
  else none
 | _=>none
def askF(op:Int):AVal:=
 if op=1 then .fn 177 [] [] else if op=9 then .fn 178 [] [] else if op=2 then .fn 179 [] [] else if op=3 then .fn 180 [] [] else if op=4 then .fn 181 [] [] else if op=10 then .fn 182 [] [] else if op=11 then .fn 183 [] [] else
 if op=5 then .fn 184 [] [] else if op=6 then .fn 185 [] [] else if op=7 then .fn 186 [] [] else if op=8 then .fn 187 [] [] else .nilf
def AskIs(ask:AVal)(L:AVal→Obj)(r0:AVal)(τ:Store)(o:Option (SlX Int)):Prop:=
 match o with
 | none=>∃ σ1,acallV code ask [.ptr 0 0 0 0] (L r0::τ)=some (.bool false,σ1)
 | some s=>∃ r X,acallV code ask [.ptr 0 0 0 0] (L r0::τ)=some (.bool true,L r::τ++X)∧ResOk X r s.b s.l
theorem askIs_if{ask:AVal}{L:AVal→Obj}{r0:AVal}{τ:Store}{t:Bool}{s:SlX Int}{r:AVal}{X:Store}
  (h:acallV code ask [.ptr 0 0 0 0] (L r0::τ)=some (.bool t,L r::τ++X)) (hr:ResOk X r s.b s.l):AskIs ask L r0 τ (if t then some s else none):=by
 cases t with
 | true=>exact ⟨r,X,h,hr⟩
 | false=>exact ⟨_,h⟩
theorem ask0(bn:Bool)(nodes:List LNX)(ep1 m1 ep2 m2:Nat)(n:LNX)(a b r0:AVal)(τ:Store)(hn:NFit n)(hop:partsF n.op=0) :
  AskIs (askF n.op) (laidX bn nodes ep1 m1 ep2 m2 n a b) r0 τ (opF nodes n []):=by
 have hk:n.kinds.length≤most:=Nat.le_trans hn.kinds (by decide)
 by_cases h1:n.op=1
 ·have hs:=scan_spec (.imm bn (nodes.map LNX.a)) (.sl 1 ep1 0 m1) (.sl 2 ep2 0 m2) n a b r0 τ hk
  have h:=askIs_if (ask:=askF n.op) (L:=laidX bn nodes ep1 m1 ep2 m2 n a b) (r0:=r0) (τ:=τ) (X:=[]) (s:=⟨n.bk,n.kinds⟩) (t:=scanF n) (by rw[List.append_nil,show askF n.op=.fn 177 [] [] by simp[askF,h1]];simpa using hs) (res_imm [] _ _)
  simpa [opF,h1] using h
 ·by_cases h2:n.op=9
  ·have hs:=input_spec (.imm bn (nodes.map LNX.a)) (.sl 1 ep1 0 m1) (.sl 2 ep2 0 m2) n a b r0 τ hk
   have h:=askIs_if (ask:=askF n.op) (L:=laidX bn nodes ep1 m1 ep2 m2 n a b) (r0:=r0) (τ:=τ) (X:=[]) (s:=⟨n.bk,n.kinds⟩) (t:=inputF n) (by rw[List.append_nil,show askF n.op=.fn 178 [] [] by simp[askF,h2]];simpa using hs) (res_imm [] _ _)
   simpa [opF,h2] using h
  ·exfalso
   unfold partsF at hop
   rw[if_neg (by omega)]at hop
   repeat' (split at hop<;>try omega)
theorem partsF_one{op:Int}(h:partsF op=1):op=3∨op=4∨op=5∨op=6∨op=8∨op=10∨op=11:=by
 unfold partsF at h
 split at h
 ·omega
 ·split at h
  ·omega
  ·split at h
   ·omega
   ·omega
theorem partsF_two{op:Int}(h:partsF op=2):op=2∨op=7:=by
 unfold partsF at h
 split at h
 ·omega
 ·split at h
  ·omega
  ·split at h<;>omega
theorem ask1(bn:Bool)(nodes:List LNX)(ep1 m1 ep2 m2:Nat)(n:LNX)(a:SlX Int)(r0:AVal)(τ:Store)(hτ:Fzs τ)(hl:τ.length=5)(hn:NFit n)(hop:partsF n.op=1)(hL:n.op=11→0≤n.l∧n.l.toNat < nodes.length)(ha:a.l.length≤m32) :
  AskIs (askF n.op) (laidX bn nodes ep1 m1 ep2 m2 n (.imm a.b (intsA a.l)) .nil0) r0 τ (opF nodes n [a]):=by
 have hm:m32≤most:=by decide
 have hmm:m32+m32≤most:=by decide
 have ha':=Nat.le_trans ha hm
 have hkg:n.keys.length+n.aggs.length≤most:=Nat.le_trans (Nat.add_le_add hn.keys hn.aggs) hmm
 have hl2:2≤τ.length:=by omega
 rcases partsF_one hop with h|h|h|h|h|h|h
 ·have hs:=filter_spec (.imm bn (nodes.map LNX.a)) (.sl 1 ep1 0 m1) (.sl 2 ep2 0 m2) n a.b a.l .nil0 r0 τ (Nat.le_trans hn.cond hm) ha'
  have:=askIs_if (ask:=askF n.op) (L:=laidX bn nodes ep1 m1 ep2 m2 n (.imm a.b (intsA a.l)) .nil0) (r0:=r0) (τ:=τ) (X:=[]) (s:=a) (t:=truthF n.cond a.l) (by rw[List.append_nil,show askF n.op=.fn 180 [] [] by simp[askF,h]];simpa using hs) (res_imm [] _ _)
  simpa [opF,h] using this
 ·have hs:=group_spec bn nodes ep1 m1 ep2 m2 n a.b a.l r0 τ hτ hl2 (Nat.le_trans hn.keys hm) (Nat.le_trans hn.aggs hm) hkg (fun g hg=>Nat.le_trans (hn.args g hg) hm) ha'
  cases hq:keysF a.l n.keys with
  | none=>
   rw[hq]at hs
   have e:opF nodes n [a]=none:=by simp[opF,h,hq]
   rw[e]
   exact (show askF n.op=.fn 181 [] [] by simp[askF,h]) ▸ hs
  | some ks=>
   rw[hq]at hs
   have hlen:=keysF_len hq
   have e:opF nodes n [a]=if aggsOk n a.l then some ⟨false,ks++n.aggs.map fun g=>(aggK a.l g).2⟩ else none:=by simp[opF,h,hq]
   rw[e]
   have hr:=res_sl7 (n.keys.length+n.aggs.length) (ks++n.aggs.map fun g=>(aggK a.l g).2) (grpO n) []
   rw[show (ks++n.aggs.map fun g=>(aggK a.l g).2).length=n.keys.length+n.aggs.length by simp[hlen]]at hr
   rw[hl]at hs
   exact askIs_if (by rw[show askF n.op=.fn 181 [] [] by simp[askF,h]];exact hs) hr
 ·have hs:=project_spec bn nodes ep1 m1 ep2 m2 n a.b a.l r0 τ hτ hl2 (Nat.le_trans hn.items hm) (fun e he=>Nat.le_trans (hn.exprs e he) hm) ha'
  cases hq:itemsF a.l n.items with
  | none=>
   rw[hq]at hs
   have e:opF nodes n [a]=none:=by simp[opF,h,hq]
   rw[e]
   exact (show askF n.op=.fn 184 [] [] by simp[askF,h]) ▸ hs
  | some ks=>
   rw[hq]at hs
   have e:opF nodes n [a]=if decide (0 < ks.length) then some ⟨false,ks⟩ else none:=by simp[opF,h,hq]
   rw[e]
   rw[hl]at hs
   exact askIs_if (by rw[show askF n.op=.fn 184 [] [] by simp[askF,h]];exact hs) (res_sl6 n.items.length ks [])
 ·have hs:=keeps_spec (.imm bn (nodes.map LNX.a)) (.sl 1 ep1 0 m1) (.sl 2 ep2 0 m2) n a.b a.l .nil0 r0 τ
  have:=askIs_if (ask:=askF n.op) (L:=laidX bn nodes ep1 m1 ep2 m2 n (.imm a.b (intsA a.l)) .nil0) (r0:=r0) (τ:=τ) (X:=[]) (s:=a) (t:=true) (by rw[List.append_nil,show askF n.op=.fn 185 [] [] by simp[askF,h]];simpa using hs) (res_imm [] _ _)
  simpa [opF,h] using this
 ·obtain ⟨X,hs⟩:=lsort_spec (.imm bn (nodes.map LNX.a)) (.sl 1 ep1 0 m1) (.sl 2 ep2 0 m2) n a.b a.l .nil0 r0 τ (Nat.le_trans hn.ords hm)
  have:=askIs_if (ask:=askF n.op) (L:=laidX bn nodes ep1 m1 ep2 m2 n (.imm a.b (intsA a.l)) .nil0) (r0:=r0) (τ:=τ) (X:=[X]) (s:=a) (t:=sortF n a.l) (by rw[show askF n.op=.fn 187 [] [] by simp[askF,h]];simpa using hs) (res_imm [X] _ _)
  simpa [opF,h] using this
 ·have hs:=partial_spec bn nodes ep1 m1 ep2 m2 n a.b a.l r0 τ hτ hl2 (Nat.le_trans hn.keys hm) (Nat.le_trans hn.aggs hm) hkg (fun g hg=>Nat.le_trans (hn.args g hg) hm) ha'
  have ef:askF n.op=.fn 182 [] []:=by simp[askF,h]
  rw[ef]
  cases hq:keysF a.l n.keys with
  | none=>
   rw[hq]at hs
   have e:opF nodes n [a]=none:=by simp[opF,h,hq]
   rw[e]
   exact hs
  | some ks=>
   rw[hq]at hs
   have hlen:=keysF_len hq
   have e:opF nodes n [a]=if aggsOk n a.l then some ⟨false,ks++n.aggs.map (partK a.l)⟩ else none:=by simp[opF,h,hq]
   rw[e]
   cases hg:aggsOk n a.l with
   | false=>
    rw[hg]at hs
    exact hs
   | true=>
    rw[hg]at hs
    have hr:=res_sl7 (n.keys.length+n.aggs.length) (ks++n.aggs.map (partK a.l)) (grpO n) []
    rw[show (ks++n.aggs.map (partK a.l)).length=n.keys.length+n.aggs.length by simp[hlen]]at hr
    rw[hl]at hs
    exact ⟨_,_,hs,hr⟩
 ·obtain ⟨h0,h1⟩:=hL h
  have hmm:nodes[n.l.toNat]?=some nodes[n.l.toNat]:=List.getElem?_eq_getElem h1
  have ef:askF n.op=.fn 183 [] []:=by simp[askF,h]
  have e:opF nodes n [a]=if finHead n nodes[n.l.toNat] a.l&&(finKeys a.l 0 n.keys&&finAggs a.l n.keys.length n.aggs) then some ⟨false,finSet n.keys.length n.aggs a.l⟩ else none:=by simp[opF,h,hmm]
  rw[e,ef]
  cases hh:finHead n nodes[n.l.toNat] a.l with
  | false=>
   exact final_bad bn nodes ep1 m1 ep2 m2 n _ a.b a.l r0 τ h0 hmm hkg hh
  | true=>
   have hs:=final_spec bn nodes ep1 m1 ep2 m2 n _ a.b a.l r0 τ hτ hl2 h0 hmm hkg ha' hh
   rw[hl]at hs
   have hr:=res_sl7 0 (finSet n.keys.length n.aggs a.l) (grpO n) []
   rw[finSet_len]at hr
   rw[Bool.true_and]
   exact askIs_if hs hr
theorem ask2(bn:Bool)(nodes:List LNX)(ep1 m1 ep2 m2:Nat)(n:LNX)(a b:SlX Int)(r0:AVal)(τ:Store)(hτ:Fzs τ)(hl:τ.length=5)(hn:NFit n)(hop:partsF n.op=2)(ha:a.l.length≤m32)(hb:b.l.length≤m32) :
  AskIs (askF n.op) (laidX bn nodes ep1 m1 ep2 m2 n (.imm a.b (intsA a.l)) (.imm b.b (intsA b.l))) r0 τ (opF nodes n [a,b]):=by
 have hm:m32≤most:=by decide
 have hmm:m32+m32≤most:=by decide
 rcases partsF_two hop with h|h
 ·have hs:=join_spec (.imm bn (nodes.map LNX.a)) (.sl 1 ep1 0 m1) (.sl 2 ep2 0 m2) n a.b b.b a.l b.l r0 τ (Nat.le_trans hn.cond hm) (Nat.le_trans (Nat.add_le_add ha hb) hmm)
  have:=askIs_if (ask:=askF n.op) (L:=laidX bn nodes ep1 m1 ep2 m2 n (.imm a.b (intsA a.l)) (.imm b.b (intsA b.l))) (r0:=r0) (τ:=τ) (X:=[]) (s:=⟨false,a.l++b.l⟩) (t:=truthF n.cond (a.l++b.l)) (by rw[List.append_nil,show askF n.op=.fn 179 [] [] by simp[askF,h]];simpa using hs) (res_imm [] _ _)
  simpa [opF,h] using this
 ·have ef:askF n.op=.fn 186 [] []:=by simp[askF,h]
  rw[ef]
  by_cases hlen:a.l.length=b.l.length
  ·have hs:=union_spec bn nodes ep1 m1 ep2 m2 n a.b b.b a.l b.l r0 τ hτ (by omega) (Nat.le_trans ha hm) hlen
   have e:opF nodes n [a,b]=(unionF a.l b.l).map fun ks=>⟨false,ks⟩:=by simp[opF,h,hlen]
   rw[e]
   cases hq:unionF a.l b.l with
   | none=>rw[hq]at hs;exact hs
   | some ks=>
    rw[hq]at hs
    rw[hl]at hs
    exact ⟨_,_,hs,res_sl6 a.l.length ks []⟩
  ·have e:opF nodes n [a,b]=none:=by simp[opF,h,hlen]
   rw[e]
   exact union_bad bn nodes ep1 m1 ep2 m2 n a.b b.b a.l b.l r0 τ hlen
end Go.AM
end
section
namespace Go.AM
open P
set_option maxHeartbeats 8000000
set_option maxRecDepth 8000
def noSl:SlX Int:=⟨false,[]⟩
def stepF(nodes:List LNX)(i:Nat)(n:LNX)(kinds:List (SlX Int))(opn:List Nat):Option (SlX Int×List Nat):=
 match preF n opn with
 | none=>none
 | some ps=>
  if (ps.any fun p=>(n.op != 11)&&sum4 (kinds.getD p noSl).l)=true∨rootOk n i nodes.length=false then none else
  match opF nodes n (ps.map fun p=>kinds.getD p noSl) with
  | none=>none
  | some res=>if 16 < res.l.length then none else some (res,opn.take (opn.length - ps.length)++[i])
def slotA(kinds:List (SlX Int)):List Nat→AVal
 | p::_=>.imm (kinds.getD p noSl).b (intsA (kinds.getD p noSl).l)
 | []=>.nil0
def slotB(kinds:List (SlX Int)):List Nat→AVal
 | [_,q]=>.imm (kinds.getD q noSl).b (intsA (kinds.getD q noSl).l)
 | _=>.nil0
def TakesIs(bn:Bool)(nodes:List LNX)(ep1 ep2:Nat)(kinds:List (SlX Int))(opn:List Nat)(n:LNX)(B:Obj)(i:Nat)(call:Option (AVal×Store)):Option (SlX Int×List Nat)→Prop
 | none=>∃ σ',call=some (.bool false,σ')
 | some (s,o')=>∃ ps r AT X,preF n opn=some ps∧call=some (.bool true,
   laidX bn nodes (ep1+1) (kinds.length+1) (ep2+1) o'.length n (slotA kinds ps) (slotB kinds ps) r::.arr 1 (ep1+1) (kinds.map (SlX.c (.int .i64))++[r])::.arr 1 (ep2+1) (natsI o')::B::grpO n::AT::X)∧ResOk X r s.b s.l
theorem rootOk_cases(E:TkE)(hi:E.i < E.nodes.length):(rootOk E.n E.i E.nodes.length=true∧RootFine E)∨(rootOk E.n E.i E.nodes.length=false∧RootBad E):=by
 have e:((E.i:Int) != ((E.nodes.length:Int) - 1))=(E.i != E.nodes.length - 1):=by
  rw[Bool.eq_iff_iff]
  simp only[bne_iff_ne,ne_eq]
  constructor<;>intro h<;>omega
 unfold RootFine RootBad rootOk
 rw[e]
 cases (E.n.op == 8)<;>cases (E.n.op == 10)<;>cases (E.i != E.nodes.length - 1)<;>simp
abbrev TkE.is(E:TkE):Prop:=TakesIs E.bn E.nodes E.ep1 E.ep2 E.kinds E.opn E.n E.B E.i E.call (stepF E.nodes E.i E.n E.kinds E.opn)
theorem step0(E:TkE)(h:Tk E 0 [])(ha:E.ask=askF E.n.op)(hil:E.nodes.length≤m32)(hol:E.opn.length+1≤most)(hkl:E.kinds.length+1≤most)(hkn:E.kinds.length≤E.nodes.length)
  (hpre:preF E.n E.opn=if E.n.l=-1∧E.n.r=-1 then some [] else none) (hk:∀ s∈E.kinds,s.l.length≤m32) (hn:NFit E.n):E.is:=by
 have hm:m32≤most:=by decide
 have hlti:=(List.getElem?_eq_some_iff.1 h.hi).1
 have hB:=h.hB
 unfold TkE.is stepF
 by_cases hA:E.n.l=-1∧E.n.r=-1
 ·rw[if_pos hA]at hpre
  rw[hpre]
  simp only[List.map_cons,List.map_nil,List.any_cons,List.any_nil,Bool.or_false]
  rcases rootOk_cases E hlti with ⟨hr,hc⟩|⟨hr,hc⟩
  ·rw[if_neg (by simp[hr])]
   have hask:=ask0 E.bn E.nodes E.ep1 E.kinds.length E.ep2 E.opn.length E.n .nil0 .nil0 E.r0 [.arr 1 E.ep1 (E.kinds.map (SlX.c (.int .i64))),.arr 1 E.ep2 (natsI E.opn),E.B,grpO E.n,atO (-1) (-1)] hn h.hop
   rw[← ha]at hask
   cases ho:opF E.nodes E.n [] with
   | none=>
    rw[ho]at hask
    obtain ⟨σ1,hask⟩:=hask
    exact takes0_no E h hA hc σ1 hask
   | some s=>
    rw[ho]at hask
    obtain ⟨r,X,hask,hR⟩:=hask
    by_cases hw:16 < s.l.length
    ·simp only[if_pos hw]
     exact takes0_wide E h hA hc r s.b s.l X hR hask hw
    ·simp only[if_neg hw]
     refine ⟨[],r,atO (-1) (-1),X,hpre,?_,hR⟩
     simp only[slotA,slotB,List.length_append,List.length_take,List.length_cons,List.length_nil,List.map_append,natsI,List.map_cons,List.map_nil,Nat.zero_add,List.length_nil]
     rw[Nat.min_eq_left (Nat.sub_le _ _)]
     exact takes0_yes E h hkl hol hA hc r s.b s.l X hR hask (by omega)
  ·rw[if_pos (.inr hr)]
   exact takes0_root E h hA hc
 ·rw[if_neg hA]at hpre
  rw[hpre]
  exact takes0_bad E h hA
theorem step1(E:TkE)(p:Nat)(h:Tk E 1 [p])(ha:E.ask=askF E.n.op)(hil:E.nodes.length≤m32)(hol:E.opn.length+1≤most)(hkl:E.kinds.length+1≤most)(hkn:E.kinds.length≤E.nodes.length)
  (hpre:preF E.n E.opn=if E.n.l=(p:Int)∧E.n.r=-1 then some [p] else none) (hp:p < E.kinds.length) (hk:∀ s∈E.kinds,s.l.length≤m32) (hn:NFit E.n):E.is:=by
 have hm:m32≤most:=by decide
 have hlti:=(List.getElem?_eq_some_iff.1 h.hi).1
 have hB:=h.hB
 unfold TkE.is stepF
 by_cases hA:E.n.l=(p:Int)∧E.n.r=-1
 ·rw[if_pos hA]at hpre
  rw[hpre]
  obtain ⟨kp,hkp⟩:∃ s,E.kinds[p]?=some s:=⟨_,List.getElem?_eq_getElem hp⟩
  have ep:E.kinds.getD p noSl=kp:=by rw[List.getD_eq_getElem?_getD,hkp];rfl
  have lp:=hk kp (List.mem_of_getElem? hkp)
  simp only[List.map_cons,List.map_nil,List.any_cons,List.any_nil,ep,Bool.or_false]
  rcases Bool.eq_false_or_eq_true ((E.n.op != 11)&&sum4 kp.l) with fp|fp
  ·rw[if_pos (.inl (by simp only[fp,Bool.true_or]))]
   exact takes1_four0 E p h hA kp hkp (Nat.le_trans lp hm) fp
  rcases rootOk_cases E hlti with ⟨hr,hc⟩|⟨hr,hc⟩
  ·rw[if_neg (by simp[hr,fp])]
   have hask:=ask1 E.bn E.nodes E.ep1 E.kinds.length E.ep2 E.opn.length E.n kp E.r0 [.arr 1 E.ep1 (E.kinds.map (SlX.c (.int .i64))),.arr 1 E.ep2 (natsI E.opn),E.B,grpO E.n,atO (p:Int) (-1)] (fun base σ=>by rw[List.map_cons,List.map_cons,List.map_cons,hB];simp[freezeObj]) rfl hn h.hop (fun _=>by rw[hA.1];exact ⟨by omega,by simp;omega⟩) lp
   rw[← ha]at hask
   cases ho:opF E.nodes E.n [kp] with
   | none=>
    rw[ho]at hask
    obtain ⟨σ1,hask⟩:=hask
    exact takes1_no E p h hA kp hkp (Nat.le_trans lp hm) fp hc σ1 hask
   | some s=>
    rw[ho]at hask
    obtain ⟨r,X,hask,hR⟩:=hask
    by_cases hw:16 < s.l.length
    ·simp only[if_pos hw]
     exact takes1_wide E p h hA kp hkp (Nat.le_trans lp hm) fp hc r s.b s.l X hR hask hw
    ·simp only[if_neg hw]
     refine ⟨[p],r,atO (p:Int) (-1),X,hpre,?_,hR⟩
     simp only[slotA,slotB,ep,List.length_append,List.length_take,List.length_cons,List.length_nil,List.map_append,natsI,List.map_cons,List.map_nil,Nat.zero_add,Nat.reduceAdd]
     rw[Nat.min_eq_left (Nat.sub_le _ _)]
     exact takes1_yes E p h hkl hol hA kp hkp (Nat.le_trans lp hm) fp hc r s.b s.l X hR hask (by omega)
  ·rw[if_pos (.inr hr)]
   exact takes1_root E p h hA kp hkp (Nat.le_trans lp hm) fp hc
 ·rw[if_neg hA]at hpre
  rw[hpre]
  exact takes1_bad E p h hA
theorem step2(E:TkE)(p q:Nat)(h:Tk E 2 [p,q])(ha:E.ask=askF E.n.op)(hil:E.nodes.length≤m32)(hol:E.opn.length+1≤most)(hkl:E.kinds.length+1≤most)(hkn:E.kinds.length≤E.nodes.length)
  (hpre:preF E.n E.opn=if E.n.l=(p:Int)∧E.n.r=(q:Int) then some [p,q] else none) (hp:p < E.kinds.length) (hq:q < E.kinds.length) (hk:∀ s∈E.kinds,s.l.length≤m32) (hn:NFit E.n):E.is:=by
 have hm:m32≤most:=by decide
 have hlti:=(List.getElem?_eq_some_iff.1 h.hi).1
 have hB:=h.hB
 unfold TkE.is stepF
 by_cases hA:E.n.l=(p:Int)∧E.n.r=(q:Int)
 ·rw[if_pos hA]at hpre
  rw[hpre]
  obtain ⟨kp,hkp⟩:∃ s,E.kinds[p]?=some s:=⟨_,List.getElem?_eq_getElem hp⟩
  have ep:E.kinds.getD p noSl=kp:=by rw[List.getD_eq_getElem?_getD,hkp];rfl
  have lp:=hk kp (List.mem_of_getElem? hkp)
  obtain ⟨kq,hkq⟩:∃ s,E.kinds[q]?=some s:=⟨_,List.getElem?_eq_getElem hq⟩
  have eq:E.kinds.getD q noSl=kq:=by rw[List.getD_eq_getElem?_getD,hkq];rfl
  have lq:=hk kq (List.mem_of_getElem? hkq)
  simp only[List.map_cons,List.map_nil,List.any_cons,List.any_nil,ep,eq,Bool.or_false]
  rcases Bool.eq_false_or_eq_true ((E.n.op != 11)&&sum4 kp.l) with fp|fp
  ·rw[if_pos (.inl (by simp only[fp,Bool.true_or]))]
   exact takes2_four0 E p q h hA kp hkp (Nat.le_trans lp hm) kq hkq (Nat.le_trans lq hm) fp
  rcases Bool.eq_false_or_eq_true ((E.n.op != 11)&&sum4 kq.l) with fq|fq
  ·rw[if_pos (.inl (by simp only[fq,Bool.or_true]))]
   exact takes2_four1 E p q h hA kp hkp (Nat.le_trans lp hm) kq hkq (Nat.le_trans lq hm) fp fq
  rcases rootOk_cases E hlti with ⟨hr,hc⟩|⟨hr,hc⟩
  ·rw[if_neg (by simp[hr,fp,fq])]
   have hask:=ask2 E.bn E.nodes E.ep1 E.kinds.length E.ep2 E.opn.length E.n kp kq E.r0 [.arr 1 E.ep1 (E.kinds.map (SlX.c (.int .i64))),.arr 1 E.ep2 (natsI E.opn),E.B,grpO E.n,atO (p:Int) (q:Int)] (fun base σ=>by rw[List.map_cons,List.map_cons,List.map_cons,hB];simp[freezeObj]) rfl hn h.hop lp lq
   rw[← ha]at hask
   cases ho:opF E.nodes E.n [kp,kq] with
   | none=>
    rw[ho]at hask
    obtain ⟨σ1,hask⟩:=hask
    exact takes2_no E p q h hA kp hkp (Nat.le_trans lp hm) kq hkq (Nat.le_trans lq hm) fp fq hc σ1 hask
   | some s=>
    rw[ho]at hask
    obtain ⟨r,X,hask,hR⟩:=hask
    by_cases hw:16 < s.l.length
    ·simp only[if_pos hw]
     exact takes2_wide E p q h hA kp hkp (Nat.le_trans lp hm) kq hkq (Nat.le_trans lq hm) fp fq hc r s.b s.l X hR hask hw
    ·simp only[if_neg hw]
     refine ⟨[p,q],r,atO (p:Int) (q:Int),X,hpre,?_,hR⟩
     simp only[slotA,slotB,ep,eq,List.length_append,List.length_take,List.length_cons,List.length_nil,List.map_append,natsI,List.map_cons,List.map_nil,Nat.zero_add,Nat.reduceAdd]
     rw[Nat.min_eq_left (Nat.sub_le _ _)]
     exact takes2_yes E p q h hkl hol hA kp hkp (Nat.le_trans lp hm) kq hkq (Nat.le_trans lq hm) fp fq hc r s.b s.l X hR hask (by omega)
  ·rw[if_pos (.inr hr)]
   exact takes2_root E p q h hA kp hkp (Nat.le_trans lp hm) kq hkq (Nat.le_trans lq hm) fp fq hc
 ·rw[if_neg hA]at hpre
  rw[hpre]
  exact takes2_bad E p q h hA
theorem takes_spec(bn:Bool)(nodes:List LNX)(ep1 ep2:Nat)(kinds:List (SlX Int))(opn:List Nat)(n0:Cells12)(n:LNX)(a0 b0 r0:AVal)(B:Obj)(i:Nat)(hi:nodes[i]?=some n)(hil:nodes.length≤m32)(hol:opn.length+1≤most)(hkl:kinds.length+1≤most)(hkn:kinds.length≤nodes.length)
  (ho:∀ p∈opn,p < kinds.length) (hk:∀ s∈kinds,s.l.length≤m32) (hn:NFit n) (hB:∀ base σ,freezeObj base σ B=B) :
  TakesIs bn nodes ep1 ep2 kinds opn n B i (acall code I.qej [.ptr 0 0 0 0,.int .i64 i,askF n.op] (stK bn nodes ep1 ep2 kinds opn n0 a0 b0 r0 B)) (stepF nodes i n kinds opn):=by
 have hm:m32≤most:=by decide
 by_cases hb:partsF n.op < 0∨(opn.length:Int) < partsF n.op∨blankF n=false
 ·have e:stepF nodes i n kinds opn=none:=by
   unfold stepF preF
   rw[if_pos hb]
  rw[e]
  exact takes_bad0 bn nodes ep1 ep2 kinds opn n0 n a0 b0 r0 B _ i hi (Nat.le_trans hn.keys hm) (Nat.le_trans hn.aggs hm) hb
 ·have hbl:blankF n=true:=by
   cases h:blankF n with
   | true=>rfl
   | false=>exact absurd (.inr (.inr h)) hb
  have hpl:=partsF_le n.op
  have hpre:preF n opn=match opn.drop (opn.length - (partsF n.op).toNat) with
   | []=>if n.l=-1∧n.r=-1 then some [] else none
   | [p]=>if n.l=p∧n.r=-1 then some [p] else none
   | [p,q]=>if n.l=p∧n.r=q then some [p,q] else none
   | _=>none:=by
   unfold preF
   exact if_neg hb
  have hmem:∀ p∈opn.drop (opn.length - (partsF n.op).toNat),p < kinds.length:=fun p hp=>ho p (List.mem_of_mem_drop hp)
  have hlen:(opn.drop (opn.length - (partsF n.op).toNat)).length=(partsF n.op).toNat:=by
   rw[List.length_drop];omega
  have tk:∀ (k:Nat) (ps:List Nat),partsF n.op=k→opn.drop (opn.length - k)=ps→Tk ⟨bn,nodes,ep1,ep2,kinds,opn,n0,a0,b0,r0,B,askF n.op,i,n⟩ k ps:=fun k ps h1 h2=>
   ⟨hi,Nat.le_trans hil hm,by show opn.length≤most;omega,Nat.le_trans hn.keys hm,Nat.le_trans hn.aggs hm,h1,by show k≤opn.length;omega,h2,hbl,hB⟩
  have h012:partsF n.op=0∨partsF n.op=1∨partsF n.op=2:=by omega
  rcases h012 with h|h|h
  ·have e:(partsF n.op).toNat=0:=by omega
   rw[e]at hpre hmem hlen
   generalize hd:opn.drop (opn.length - 0)=l at *
   match l,hlen with
   | [],_=>exact step0 ⟨bn,nodes,ep1,ep2,kinds,opn,n0,a0,b0,r0,B,askF n.op,i,n⟩ (tk 0 [] h hd) rfl hil hol hkl hkn hpre hk hn
  ·have e:(partsF n.op).toNat=1:=by omega
   rw[e]at hpre hmem hlen
   generalize hd:opn.drop (opn.length - 1)=l at *
   match l,hlen with
   | [p],_=>exact step1 ⟨bn,nodes,ep1,ep2,kinds,opn,n0,a0,b0,r0,B,askF n.op,i,n⟩ p (tk 1 [p] h hd) rfl hil hol hkl hkn hpre (hmem p (by simp)) hk hn
  ·have e:(partsF n.op).toNat=2:=by omega
   rw[e]at hpre hmem hlen
   generalize hd:opn.drop (opn.length - 2)=l at *
   match l,hlen with
   | [p,q],_=>exact step2 ⟨bn,nodes,ep1,ep2,kinds,opn,n0,a0,b0,r0,B,askF n.op,i,n⟩ p q (tk 2 [p,q] h hd) rfl hil hol hkl hkn hpre (hmem p (by simp)) (hmem q (by simp)) hk hn
end Go.AM
end
section
namespace Go.AM
open P
set_option maxHeartbeats 16000000
set_option maxRecDepth 8000
attribute [local simp] condRun_if when_if
def asksE:List (AVal×AVal):=[(.int .i64 1,.fn 177 [] []),(.int .i64 9,.fn 178 [] []),(.int .i64 2,.fn 179 [] []),(.int .i64 3,.fn 180 [] []),(.int .i64 4,.fn 181 [] []),(.int .i64 10,.fn 182 [] []),(.int .i64 11,.fn 183 [] []),(.int .i64 5,.fn 184 [] []),(.int .i64 6,.fn 185 [] []),(.int .i64 7,.fn 186 [] []),(.int .i64 8,.fn 187 [] [])]
theorem asks_spec:pcall I.qdu []=some (.imap false asksE):=by
 rw[pcall_eq c_qdu rfl]
 simp[f_qdu,b_qdu,asksE,isKey,mput,keyIs]
theorem lookup_asks(op:Int):∃ r,lookup (.int .i64 op) asksE=some r∧r.getD .nilf=askF op:=by
 unfold asksE askF
 by_cases h1:op=1
 ·subst h1
  exact ⟨some _,rfl,rfl⟩
 by_cases h9:op=9
 ·subst h9
  exact ⟨some _,rfl,rfl⟩
 by_cases h2:op=2
 ·subst h2
  exact ⟨some _,rfl,rfl⟩
 by_cases h3:op=3
 ·subst h3
  exact ⟨some _,rfl,rfl⟩
 by_cases h4:op=4
 ·subst h4
  exact ⟨some _,rfl,rfl⟩
 by_cases h10:op=10
 ·subst h10
  exact ⟨some _,rfl,rfl⟩
 by_cases h11:op=11
 ·subst h11
  exact ⟨some _,rfl,rfl⟩
 by_cases h5:op=5
 ·subst h5
  exact ⟨some _,rfl,rfl⟩
 by_cases h6:op=6
 ·subst h6
  exact ⟨some _,rfl,rfl⟩
 by_cases h7:op=7
 ·subst h7
  exact ⟨some _,rfl,rfl⟩
 by_cases h8:op=8
 ·subst h8
  exact ⟨some _,rfl,rfl⟩
 refine ⟨none,?_,?_⟩
 ·simp[lookup,keyIs,beq_f (Ne.symm h1),beq_f (Ne.symm h9),beq_f (Ne.symm h2),beq_f (Ne.symm h3),beq_f (Ne.symm h4),beq_f (Ne.symm h10),beq_f (Ne.symm h11),beq_f (Ne.symm h5),beq_f (Ne.symm h6),beq_f (Ne.symm h7),beq_f (Ne.symm h8)]
 ·simp[h1,h9,h2,h3,h4,h10,h11,h5,h6,h7,h8]
structure KSt where
 kinds:List (SlX Int)
 opn:List Nat
 z0:Cells12
 a0:AVal
 b0:AVal
 r0:AVal
def kstep(nodes:List LNX)(i:Nat)(n:LNX)(s:KSt):KSt⊕Nat:=
 match stepF nodes i n s.kinds s.opn with
 | none=>.inr i
 | some (x,o')=>.inl ⟨s.kinds++[x],o',n.z,slotA s.kinds ((preF n s.opn).getD []),slotB s.kinds ((preF n s.opn).getD []),.imm x.b (intsA x.l)⟩
@[simp] theorem slotA_fz(kinds:List (SlX Int))(ps:List Nat)(base:Nat)(σ:Store)(m:Nat):fz false true base σ (m+3) (slotA kinds ps)=slotA kinds ps:=by
 cases ps<;>simp[slotA]
@[simp] theorem slotB_fz(kinds:List (SlX Int))(ps:List Nat)(base:Nat)(σ:Store)(m:Nat):fz false true base σ (m+3) (slotB kinds ps)=slotB kinds ps:=by
 unfold slotB
 split<;>simp
@[simp] theorem slotA_nc(kinds:List (SlX Int))(ps:List Nat):ncells (slotA kinds ps)=1:=by cases ps<;>rfl
@[simp] theorem slotB_nc(kinds:List (SlX Int))(ps:List Nat):ncells (slotB kinds ps)=1:=by
 unfold slotB
 split<;>rfl
abbrev kEnv(bn:Bool)(nodes:List LNX)(bad e7 e8:AVal)(k:Nat)(e15 e16:AVal):List AVal:=[.imm bn (nodes.map LNX.a),.nil0,.int .i64 0,.int .i64 0,.ptr 0 0 0 0,.imap false asksE,bad,e7,e8,.any,.any,.bool false,.imm bn (nodes.map LNX.a),.int .i64 nodes.length,.int .i64 k,e15,e16,.any,.any,.any,.any,.any,.any]
abbrev kStore(bn:Bool)(nodes:List LNX)(k:Nat)(s:KSt):Store:=[laidZ bn nodes k s.kinds.length k s.opn.length s.z0 s.a0 s.b0 s.r0,.arr 1 k (s.kinds.map (SlX.c (.int .i64))),.arr 1 k (natsI s.opn)]
theorem stepF_len{nodes:List LNX}{i:Nat}{n:LNX}{kinds:List (SlX Int)}{opn o':List Nat}{x:SlX Int}(h:stepF nodes i n kinds opn=some (x,o')):x.l.length≤16∧o'.length≤opn.length+1∧∀ p∈o',p∈opn∨p=i:=by
 unfold stepF at h
 split at h
 ·cases h
 ·split at h
  ·cases h
  ·split at h
   ·cases h
   ·split at h
    ·cases h
    ·cases h
     refine ⟨by omega,by simp only[List.length_append,List.length_take,List.length_cons,List.length_nil];omega,fun p hp=>?_⟩
     rcases List.mem_append.1 hp with h|h
     ·exact .inl (List.mem_of_mem_take h)
     ·exact .inr (by simpa using h)
abbrev KSt.l(s:KSt):List AVal:=[s.z0.c0,s.z0.c1,s.z0.c2,s.z0.c3,s.z0.c4,s.z0.c5,s.z0.c6,s.z0.c7,s.z0.c8,s.z0.c9,s.z0.c10,s.z0.c11,s.a0,s.b0,s.r0]
def Zok(s:KSt):Prop:=∀ base σ m,s.l.map (fz false true base σ (m+3))=s.l
theorem kinds_loop(bn:Bool)(nodes:List LNX)(hN:nodes.length≤m32)(hF:∀ n∈nodes,NFit n)(z0:Cells12)(a0 b0 r0:AVal)(hz:Zok ⟨[],[],z0,a0,b0,r0⟩) :
  match foldL (kstep nodes) nodes 0 ⟨[],[],z0,a0,b0,r0⟩ with
  | .inl s=>Zok s∧s.opn.length≤nodes.length∧s.kinds.length=nodes.length∧(∀ x∈s.kinds,x.l.length≤m32)∧rounds code 3 [7,8,15,16] l_qdt_1 ⟨kEnv bn nodes (.int .i64 (-1)) .any .any 0 .any .any,kStore bn nodes 0 ⟨[],[],z0,a0,b0,r0⟩⟩ =
    some (.ext 0,⟨kEnv bn nodes (.int .i64 (-1)) .any .any nodes.length (.bool false) .any,kStore bn nodes nodes.length s⟩)
  | .inr i=>∃ o,rounds code 3 [7,8,15,16] l_qdt_1 ⟨kEnv bn nodes (.int .i64 (-1)) .any .any 0 .any .any,kStore bn nodes 0 ⟨[],[],z0,a0,b0,r0⟩⟩=some o ∧
    ∃ σ e7 e8 e15 e16,o=(.ext 0,⟨kEnv bn nodes (.int .i64 i) e7 e8 i e15 e16,σ⟩)∧i < nodes.length:=by
 have hm:m32≤most:=by decide
 have hm1:m32+1≤most:=by decide
 have h:=rounds_list (base:=3) (clr:=[7,8,15,16]) (b:=l_qdt_1) nodes
  (fun k (s:KSt)=>⟨kEnv bn nodes (.int .i64 (-1)) .any .any k .any .any,kStore bn nodes k s⟩)
  (fun k s=>s.kinds.length=k∧s.opn.length≤k∧(∀ p∈s.opn,p < k)∧(∀ x∈s.kinds,x.l.length≤m32)∧Zok s) (kstep nodes)
  (fun s=>(.ext 0,⟨kEnv bn nodes (.int .i64 (-1)) .any .any nodes.length (.bool false) .any,kStore bn nodes nodes.length s⟩))
  (fun i o=>∃ σ e7 e8 e15 e16,o=(.ext 0,⟨kEnv bn nodes (.int .i64 i) e7 e8 i e15 e16,σ⟩)∧i < nodes.length)
  (fun k n s hk hy hs=>by
   obtain ⟨h1,h2,h3,h4,_⟩:=hs
   have hn:=hF n (List.mem_of_getElem? hy)
   have ht:=takes_spec bn nodes k k s.kinds s.opn s.z0 n s.a0 s.b0 s.r0 (grpO n) k hy hN (by omega) (by omega) (by omega) (by rw[h1];exact h3) h4 hn (fun base σ=>by simp[freezeObj])
   obtain ⟨ra,hr1,hr2⟩:=lookup_asks n.op
   have hlt:((k:Int) < (nodes.length:Int)):=by omega
   unfold kstep
   cases hstep:stepF nodes k n s.kinds s.opn with
   | none=>
    rw[hstep]at ht
    obtain ⟨σ',ht⟩:=ht
    refine ⟨_,?_,σ',.int .i64 k,.ptr 3 0 0 0,.bool true,.bool true,rfl,hk⟩
    simp[stK]at ht
    simp[l_qdt_1,hlt,hy,LNX.a,isKey,hr1,hr2,ht]
   | some q=>
    obtain ⟨x,o'⟩:=q
    rw[hstep]at ht
    obtain ⟨ps,r,AT,X,hps,ht,hR⟩:=ht
    obtain ⟨g1,g2,g3⟩:=stepF_len hstep
    refine ⟨?_,by simp[h1],by simp;omega,fun p hp=>?_,fun y hy=>?_,fun base σ m=>by simp⟩
    ·simp[stK]at ht
     simp[l_qdt_1,hlt,hy,LNX.a,isKey,hr1,hr2,ht,hps,roundEnd,freezeObj,hR.fz,hR.nc,wrap_lt hk (Nat.le_trans hN hm),kEnv,kStore]
    ·rcases g3 p hp with h|h
     ·have:=h3 p h;omega
     ·omega
    ·rcases List.mem_append.1 hy with h|h
     ·exact h4 y h
     ·rw[List.mem_singleton.1 h];exact Nat.le_trans g1 (by decide))
  (fun s hs=>by simp[l_qdt_1]) ⟨[],[],z0,a0,b0,r0⟩ ⟨rfl,Nat.le_refl _,by simp,by simp,hz⟩
 cases hq:foldL (kstep nodes) nodes 0 ⟨[],[],z0,a0,b0,r0⟩ with
 | inl s=>
  rw[hq]at h
  exact ⟨h.1.2.2.2.2,h.1.2.1,h.1.1,h.1.2.2.2.1,h.2⟩
 | inr i=>
  rw[hq]at h
  exact h
end Go.AM
end
section
namespace Go.AM
open P
set_option maxHeartbeats 16000000
set_option maxRecDepth 8000
attribute [local simp] condRun_if when_if
def kgo(nodes:List LNX):List LNX→Nat→List (SlX Int)→List Nat→(List (SlX Int)×List Nat)⊕Nat
 | [],_,k,o=>.inl (k,o)
 | n::r,i,k,o=>match stepF nodes i n k o with
  | none=>.inr i
  | some (x,o')=>kgo nodes r (i+1) (k++[x]) o'
theorem kgo_fold(nodes:List LNX):∀ (l:List LNX) (i:Nat) (s:KSt),match foldL (kstep nodes) l i s with
  | .inl s'=>kgo nodes l i s.kinds s.opn=.inl (s'.kinds,s'.opn)
  | .inr j=>kgo nodes l i s.kinds s.opn=.inr j
 | [],i,s=>by simp[foldL,kgo]
 | n::l,i,s=>by
  simp only[foldL,kgo,kstep]
  cases stepF nodes i n s.kinds s.opn with
  | none=>simp
  | some q=>exact kgo_fold nodes l (i+1) ⟨s.kinds++[q.1],q.2,n.z,_,_,_⟩
def kindsF(nodes:List LNX):List (List Int)⊕Nat:=
 if nodes.length < 1∨60 < nodes.length then .inr 0 else
 match kgo nodes nodes 0 [] [] with
 | .inr i=>.inr i
 | .inl (k,o)=>if o.length=1 then .inl (k.map (·.l)) else .inr (nodes.length - 1)
def immF(l:List Int):AVal:=.imm false (l.map (.int .i64))
instance:Nc immF 1 false:=⟨fun _=>rfl,fun _=>rfl⟩
instance:Fx immF:=⟨fun fl top base σ n y=>by simp[immF]⟩
def kindsA:List (List Int)⊕Nat→AVal
 | .inl k=>.tup [.imm false (k.map immF),.int .i64 0,.int .i64 0]
 | .inr i=>.tup [.imm false [],.int .i64 i,.int .i64 291]
theorem foldL_snoc{α β:Type}(f:α→β):∀ (l:List α) (k:Nat) (acc:List β),foldL (ρ:=Empty) (fun _ x acc=>.inl (acc++[f x])) l k acc=.inl (acc++l.map f)
 | [],k,acc=>by simp[foldL]
 | x::l,k,acc=>by
  simp only[foldL]
  rw[foldL_snoc f l]
  simp
theorem kinds18_spec(bn:Bool)(nodes:List LNX)(hF:∀ n∈nodes,NFit n)(hN:nodes.length≤m32):pcall I.qdt [.imm bn (nodes.map LNX.a)]=some (kindsA (kindsF nodes)):=by
 rw[pcall_eq c_qdt rfl]
 by_cases h1:nodes.length < 1
 ·have h1':((nodes.length:Int) < 1):=by omega
  rw[show kindsF nodes=.inr 0 by simp only[kindsF,if_pos (Or.inl h1)]]
  simp[f_qdt,b_qdt,h1',kindsA]
 ·have h1':¬((nodes.length:Int) < 1):=by omega
  by_cases h2:60 < nodes.length
  ·have h2':((60:Int) < (nodes.length:Int)):=by omega
   rw[show kindsF nodes=.inr 0 by simp only[kindsF,if_pos (Or.inr h2)]]
   simp[f_qdt,b_qdt,h1',h2',kindsA]
  ·have h2':¬((60:Int) < (nodes.length:Int)):=by omega
   have e:kindsF nodes=match kgo nodes nodes 0 [] [] with
     | .inr i=>.inr i
     | .inl (k,o)=>if o.length=1 then .inl (k.map (·.l)) else .inr (nodes.length - 1):=by
    simp only[kindsF,if_neg (show ¬(nodes.length < 1∨60 < nodes.length) by omega)]
   have hl:=kinds_loop bn nodes hN hF ⟨.int .i64 0,.int .i64 0,.int .i64 0,.int .i64 0,.nil0,.bool false,.nil0,.nil0,.nil0,.nil0,.nil0,.int .i64 0⟩ .nil0 .nil0 .nil0 (fun base σ m=>by simp)
   have hg:=kgo_fold nodes nodes 0 ⟨[],[],⟨.int .i64 0,.int .i64 0,.int .i64 0,.int .i64 0,.nil0,.bool false,.nil0,.nil0,.nil0,.nil0,.nil0,.int .i64 0⟩,.nil0,.nil0,.nil0⟩
   rw[e]
   cases hq:foldL (kstep nodes) nodes 0 ⟨[],[],⟨.int .i64 0,.int .i64 0,.int .i64 0,.int .i64 0,.nil0,.bool false,.nil0,.nil0,.nil0,.nil0,.nil0,.int .i64 0⟩,.nil0,.nil0,.nil0⟩ with
   | inr i=>
    rw[hq]at hl hg
    simp only at hl hg
    rw[hg]
    obtain ⟨o,h3,σ,e7,e8,e15,e16,rfl,hi⟩:=hl
    simp[kEnv,kStore,laidZ]at h3
    simp[f_qdt,b_qdt,h1',h2',asks_spec,h3,kindsA,show ¬((i:Int) < 0) by omega]
   | inl s=>
    rw[hq]at hl hg
    simp only at hl hg
    rw[hg]
    obtain ⟨hz,h5,h6,h12,h3⟩:=hl
    simp[kEnv,kStore,laidZ]at h3
    by_cases h7:s.opn.length=1
    ·have hc:=rounds_list (ρ:=Empty) (base:=4) (clr:=[10,22]) (b:=l_qdt_0) s.kinds
      (fun k (acc:List (List Int))=>⟨[.imm bn (nodes.map LNX.a),.nil0,.int .i64 0,.int .i64 0,.ptr 0 0 0 0,.imap false asksE,.int .i64 (-1),.any,.any,.sl 3 k 0 acc.length,.any,.bool false,.imm bn (nodes.map LNX.a),.int .i64 nodes.length,.int .i64 nodes.length,.bool false,.any,.bool false,.bool false,.sl 1 nodes.length 0 s.kinds.length,.int .i64 s.kinds.length,.int .i64 k,.any],
       kStore bn nodes nodes.length s++[.arr 1 k (acc.map immF)]⟩)
      (fun k acc=>acc.length=k) (fun _ x acc=>.inl (acc++[x.l]))
      (fun acc=>(.ext 2,⟨[.imm bn (nodes.map LNX.a),.nil0,.int .i64 0,.int .i64 0,.ptr 0 0 0 0,.imap false asksE,.int .i64 (-1),.any,.any,.sl 3 s.kinds.length 0 acc.length,.any,.bool false,.imm bn (nodes.map LNX.a),.int .i64 nodes.length,.int .i64 nodes.length,.bool false,.any,.bool false,.bool false,.sl 1 nodes.length 0 s.kinds.length,.int .i64 s.kinds.length,.int .i64 s.kinds.length,.bool false],
       kStore bn nodes nodes.length s++[.arr 1 s.kinds.length (acc.map immF)]⟩))
      (fun r _=>r.elim)
      (fun k x acc hk hy hs=>by
       have hlt:((k:Int) < (s.kinds.length:Int)):=by omega
       have hzz:=hz 4
       simp[KSt.l]at hzz
       have hkl:k+1≤most:=by unfold most;omega
       subst hs
       obtain ⟨hlx,hgx⟩:=List.getElem?_eq_some_iff.1 hy
       refine ⟨?_,by simp⟩
       simp[l_qdt_0,hlt,hgx,hk,kStore,laidZ,SlX.c,append,hkl,roundEnd,freezeObj,hzz,wrap_lt hk (show s.kinds.length≤most by unfold most;omega),immF,Nat.le_trans (h12 x (List.mem_of_getElem? hy)) (show m32≤most by decide)])
      (fun acc hs=>by simp[l_qdt_0]) [] rfl
     rw[foldL_snoc]at hc
     obtain ⟨_,hc⟩:=hc
     have hkl:(s.kinds.map (·.l)).length=s.kinds.length:=List.length_map ..
     rw[List.nil_append]at hc
     simp only[if_pos h7]
     generalize s.kinds.map (·.l)=ks at hc hkl ⊢
     have htk:List.take s.kinds.length (List.map immF ks)=List.map immF ks:=by rw[← hkl];exact take_map_all ks immF
     simp[kStore,laidZ,h7,hkl]at hc
     simp[f_qdt,b_qdt,h1',h2',asks_spec,h3,kindsA,h7,hc,hkl,htk]
     exact fun a _=>by simp[immF]
    ·have h7':((s.opn.length:Int) != 1)=true:=by simp;omega
     have h8:¬((nodes.length:Int) - 1 < 0):=by omega
     have h9:(1:Int)≤(nodes.length:Int):=by omega
     have h10:=w64 (n:=(nodes.length:Int) - 1) (by omega) (by omega)
     have h11:((nodes.length - 1:Nat):Int)=(nodes.length:Int) - 1:=by omega
     simp only[if_neg h7]
     simp[f_qdt,b_qdt,h1',h2',asks_spec,h3,kindsA,h7',h8,h9,h10,h11]
end Go.AM
end
section
namespace Go.AM
open P
set_option maxRecDepth 8000
set_option maxHeartbeats 8000000
attribute [local simp] condRun_if when_if
def wrongC(root cols:List Int):Bool:=cols.any fun c=>decide (c < 0) || decide ((root.length:Int)≤c)
structure GoesOk (root cols:List Int) (way:Int):Prop where
 wrong:wrongC root cols=false
 len:¬((16:Int) < (cols.length:Int))
 way1:¬way < 1
 way4:¬4 < way
 shuf:(way=1∧0 < cols.length)∨(way≠1∧cols=[])
end Go.AM
end
section
namespace Go.AM
open P
set_option maxHeartbeats 8000000
set_option maxRecDepth 8000
attribute [local simp] condRun_if when_if
def pK(k:Nat)(r:List Val):Bool:=decide (k < r.length)&&(r.getD k zeroV).k != 0
def kindAt(rs:List (List Val))(k:Nat):Int:=if rs.any (pK k) then ((rs.getD (rs.findIdx (pK k)) []).getD k zeroV).k else 0
def kindsL(rs:List (List Val)):List Int:=(List.range (rs.headD []).length).map (kindAt rs)
def kindsP(rs:List (List Val))(k:Nat):List Int:=(List.range (rs.headD []).length).map fun i=>if i < k then kindAt rs i else 0
theorem kindsP_set(rs:List (List Val))(k:Nat):(kindsP rs k).set k (kindAt rs k)=kindsP rs (k+1):=by
 apply List.ext_getElem
 ·simp[kindsP]
 ·intro i h1 h2
  simp only[kindsP,List.getElem_set,List.getElem_map,List.getElem_range]
  by_cases h:k=i
  ·subst h;simp
  ·simp only[if_neg h]
   by_cases h3:i < k
   ·rw[if_pos h3,if_pos (by omega)]
   ·rw[if_neg h3,if_neg (by omega)]
theorem kindsP_zero(rs:List (List Val)):kindsP rs 0=List.replicate (rs.headD []).length 0:=by
 apply List.ext_getElem<;>simp[kindsP]
theorem kindsP_all(rs:List (List Val)):kindsP rs (rs.headD []).length=kindsL rs:=by
 apply List.ext_getElem
 ·simp[kindsP,kindsL]
 ·intro i h1 h2
  simp[kindsP]at h1
  simp[kindsP,kindsL,h1]
theorem kindsP_same{rs:List (List Val)}{k:Nat}(h:kindAt rs k=0):kindsP rs k=kindsP rs (k+1):=by
 unfold kindsP
 refine List.map_congr_left fun i _=>?_
 by_cases h3:i < k
 ·rw[if_pos h3,if_pos (by omega)]
 ·rw[if_neg h3]
  by_cases h4:i=k
  ·subst h4;rw[if_pos (by omega),h]
  ·rw[if_neg (by omega)]
theorem asked11_v(t:Bool)(k:Nat)(r:List Val):pcall I.qbq [rowX r,.cptr t (.int .i64 k) 0]=some (.bool (pK k r)):=by
 rw[pcall_eq c_qbq rfl]
 unfold pK
 by_cases h:k < r.length
 ·have h':((k:Int) < (r.length:Int)):=by omega
  have hg:r[k]?=some r[k]:=List.getElem?_eq_getElem h
  have hd:r.getD k zeroV=r[k]:=by rw[List.getD_eq_getElem?_getD,hg];rfl
  rw[hd]
  generalize r[k]=v at *
  cases t<;>simp[f_qbq,b_qbq,rowX,h',hg,Val.a,bne]
  all_goals simp[h]
 ·have h':¬((k:Int) < (r.length:Int)):=by omega
  cases t<;>simp[f_qbq,b_qbq,rowX,h,h']
def inN(kinds:List Int):LNX:=⟨9,-1,-1,0,true,kinds,false,false,[],false,[],false,[],false,[],false,[],0⟩
def overN(n:LNX):LNX:={ n with l:=0,r:=-1 }
def kOk:List (List Int)⊕Nat→Bool
 | .inl _=>true
 | .inr _=>false
def askedF(n:LNX)(op:Int)(rs:List (List Val)):Bool:=
 n.op == op&&decide (rs≠[])&&decide (rs.length≤8000)&&kOk (kindsF [inN (kindsL rs),overN n])&&fitL (kindsL rs) rs
theorem asked_v(n:LNX)(op:Int)(b:Bool)(rs:List (List Val))(hF:NFit n)(hm:∀ r∈rs,r.length≤m32) :
  pcall I.qbp [n.a,.int .i64 op,.imm b (rs.map rowX)]=some (.bool (askedF n op rs)):=by
 rw[pcall_eq c_qbp rfl]
 have hnz:∀ m,fz true false 0 [] (m+3) n.a=n.a:=fun m=>Ft.ft true false 0 [] m n rfl
 have hop:(cellsOf n.a)[0]?=some (.int .i64 n.op):=rfl
 have hnn:ncells n.a=12∧isAgg n.a=true:=⟨rfl,rfl⟩
 unfold askedF
 by_cases h1:n.op=op
 ·subst h1
  cases rs with
  | nil=>simp[f_qbp,b_qbp,hnz,hop,hnn]
  | cons r0 rs0=>
   generalize hrs:r0::rs0=rs at *
   have hlen:rs.length=rs0.length+1:=by rw[← hrs];rfl
   have hne:((rs.length:Int) == 0)=false:=by rw[beq_eq_false_iff_ne];omega
   have hne2:rs≠[]:=by rw[← hrs];simp
   by_cases h8:rs.length≤8000
   ·have h8':¬((8000:Int) < rs.length):=by omega
    have hr0:rs[0]?=some r0:=by rw[← hrs];rfl
    have hhd:rs.headD []=r0:=by rw[← hrs];rfl
    have hm0:r0.length≤m32:=hm r0 (by rw[← hrs];simp)
    have hrm:rs.length≤most:=by unfold most;omega
    have hkl:∀ k,(kindsP rs k).length=r0.length:=fun k=>by simp only[kindsP,hhd,List.length_map,List.length_range]
    have hloop:=rounds_iter (base:=2) (clr:=[6,7,12,13]) (b:=l_qbp_0)
     (fun k=>⟨[n.a,.int .i64 n.op,.imm b (rs.map rowX),.ptr 0 0 0 0,.bool false,.sl 1 0 0 r0.length,.any,.any,.any,.bool false,.int .i64 r0.length,.int .i64 k,.any,.any],[.arr 12 0 [n.a],.arr 1 0 (intsA (kindsP rs k))]⟩) r0.length
     (.ext 0,⟨[n.a,.int .i64 n.op,.imm b (rs.map rowX),.ptr 0 0 0 0,.bool false,.sl 1 0 0 r0.length,.any,.any,.any,.bool false,.int .i64 r0.length,.int .i64 r0.length,.bool false,.any],[.arr 12 0 [n.a],.arr 1 0 (intsA (kindsL rs))]⟩)
     (fun k hk=>by
      have hlt:((k:Int) < (r0.length:Int)):=by omega
      have hI:=fun b=>Index_api_Row_api_Row (enc:=rowX) (b:=b) (l:=rs) (f:=.fn I.qbq [] [.cptr true (.int .i64 k) 0]) (p:=pK k) hrm (fun _=>⟨rfl,rfl⟩) (fun σ=>by simp) (fun y _=>by
       have:=asked11_v true k y
       simp[this])
      have hnz2:∀ base σ m,fz false true base σ (m+3) n.a=n.a:=fun base σ m=>Ft.ft false true base σ m n rfl
      have hw:IntKind.i64.wrap ((k:Int)+1)=(k:Int)+1:=wrap64_id (by unfold m32 at hm0;omega)
      have hkk:k < (intsA (kindsP rs k)).length:=by rw[show (intsA (kindsP rs k)).length=(kindsP rs k).length by simp[intsA],hkl];exact hk
      have hset:=kindsP_set rs k
      obtain ⟨x0,hkp⟩:∃ x0,(kindsP rs k)[k]?=some x0:=⟨_,List.getElem?_eq_getElem (by rw[hkl];exact hk)⟩
      unfold ixF at hI
      cases ha:rs.any (pK k) with
      | true=>
       have hfl:=List.findIdx_lt_length_of_exists (List.any_eq_true.1 ha)
       have hp:pK k rs[rs.findIdx (pK k)]=true:=List.findIdx_getElem (w:=hfl)
       have hka:kindAt rs k=((rs.getD (rs.findIdx (pK k)) []).getD k zeroV).k:=by unfold kindAt;rw[ha];rfl
       rw[hka]at hset
       simp only[ha,if_true]at hI
       have hg:rs[rs.findIdx (pK k)]?=some rs[rs.findIdx (pK k)]:=List.getElem?_eq_getElem hfl
       have hgD:rs.getD (rs.findIdx (pK k)) []=rs[rs.findIdx (pK k)]:=by rw[List.getD_eq_getElem?_getD,hg];rfl
       rw[hgD]at hset
       generalize rs[rs.findIdx (pK k)]=w at *
       generalize rs.findIdx (pK k)=j at *
       unfold pK at hp
       simp at hp
       have hgk:w[k]?=some w[k]:=List.getElem?_eq_getElem hp.1
       have hgd:w.getD k zeroV=w[k]:=by rw[List.getD_eq_getElem?_getD,hgk];rfl
       rw[hgd]at hset
       have hset':(intsA (kindsP rs k)).set k (.int .i64 w[k].k)=intsA (kindsP rs (k+1)):=by rw[← hset,ints_set]
       generalize w[k]=v at *
       simp[l_qbp_0,hlt,hI,hg,rowX,hgk,hkk,hset',hkp,Val.a,hw,roundEnd,freezeObj,hnz2,hk]
      | false=>
       have hka:kindAt rs k=0:=by unfold kindAt;rw[ha];rfl
       have hsame:=kindsP_same hka
       simp only[ha,Bool.false_eq_true,if_false]at hI
       rw[hsame]
       simp[l_qbp_0,hlt,hI,hw,roundEnd,freezeObj,hnz2])
     (by
      have:=kindsP_all rs
      rw[hhd]at this
      rw[this]
      simp[l_qbp_0])
    have hz:=kindsP_zero rs
    rw[hhd]at hz
    simp only[hz,show ((0:Nat):Int)=0 from rfl]at hloop
    have hK:=kinds18_spec true [inN (kindsL rs),overN n] (fun x hx=>by
     rcases List.mem_cons.1 hx with rfl|hx
     ·exact ⟨by simp only[inN,kindsL,hhd,List.length_map,List.length_range];exact hm0,by simp[inN,m32],by simp[inN,m32],by simp[inN,m32],by simp[inN],by simp[inN,m32],by simp[inN],by simp[inN,m32]⟩
     ·rw[List.mem_singleton.1 hx]
      exact ⟨hF.kinds,hF.cond,hF.keys,hF.aggs,hF.args,hF.items,hF.exprs,hF.ords⟩) (by simp[m32])
    have hfit:=fun b bk=>fitX_spec b bk rs (kindsL rs) (fun r hr=>Nat.le_trans (hm r hr) (by decide))
    have hKl:(kindsL rs).length=r0.length:=by simp only[kindsL,hhd,List.length_map,List.length_range]
    have hmm:r0.length≤most:=Nat.le_trans hm0 (by decide)
    rw[show intsA (List.replicate r0.length 0)=List.replicate r0.length (AVal.int .i64 0) by simp[intsA]]at hloop
    have hin:(intsA (kindsL rs)).length=r0.length:=by simp[intsA,hKl]
    generalize kindsF [inN (kindsL rs),overN n]=Q at *
    simp only[List.map_cons,List.map_nil,inN,overN,LNX.a]at hK
    have htk:List.take r0.length (List.map (AVal.int .i64) (kindsL rs))=List.map (AVal.int .i64) (kindsL rs):=List.take_of_length_le (by simp[hKl])
    simp only[LNX.a]at *
    cases Q with
    | inl K=>
     simp only[kindsA]at hK
     cases hfl:fitL (kindsL rs) rs<;>simp only[hfl]at hfit<;>simp[f_qbp,b_qbp,hne,hne2,h8,h8',hr0,rowX,hmm,hloop,kOk,hKl,htk,hK,hfit]
    | inr i=>
     simp only[kindsA]at hK
     simp[f_qbp,b_qbp,hne,hne2,h8,h8',hr0,rowX,hmm,hloop,kOk,hKl,htk,hK]
   ·have h8':(8000:Int) < rs.length:=by omega
    simp[f_qbp,b_qbp,hnz,hop,hnn,hne,h8,h8']
 ·simp[f_qbp,b_qbp,hnz,hop,hnn,bne_t h1,beq_f h1]
end Go.AM
end
section
namespace Go.AM
open P
set_option maxHeartbeats 8000000
set_option maxRecDepth 8000
attribute [local simp] condRun_if when_if
theorem runsG_sub(cols:List Int):∀ (n:Nat) (S:List (List Val)) (g:List Val×List (List Val)),g∈runsG cols n S→(∀ r∈g.2,r∈S)∧g.2.length≤S.length∧∃ a∈S,g.1=takeR a cols
 | 0,_,_,h=>by cases h
 | n+1,[],_,h=>by cases h
 | n+1,a::t,g,h=>by
  simp only[runsG,List.mem_cons]at h
  rcases h with rfl|h
  ·refine ⟨fun r hr=>?_,?_,a,by simp,rfl⟩
   ·rcases List.mem_cons.1 hr with rfl|hr
    ·simp
    ·exact List.mem_cons_of_mem _ ((List.takeWhile_prefix (l:=t) (alikeG cols a)).subset hr)
   ·have:=(List.takeWhile_prefix (l:=t) (alikeG cols a)).length_le
    simp only[List.length_cons];omega
  ·obtain ⟨h1,h2,b,h3,h4⟩:=runsG_sub cols n _ g h
   have hs:=(List.dropWhile_suffix (l:=t) (alikeG cols a))
   exact ⟨fun r hr=>List.mem_cons_of_mem _ (hs.subset (h1 r hr)),by have:=hs.length_le;simp only[List.length_cons];omega,b,List.mem_cons_of_mem _ (hs.subset h3),h4⟩
theorem groupsF_sub{cols:List Int}{rs:List (List Val)}{g:List Val×List (List Val)}(h:g∈groupsF cols rs):(∀ r∈g.2,r∈rs)∧g.2.length≤rs.length∧∃ a∈rs,g.1=takeR a cols:=by
 obtain ⟨h1,h2,a,h3,h4⟩:=runsG_sub cols _ _ g h
 have hp:=sortC_perm (c:=cmpG cols) rs
 exact ⟨fun r hr=>hp.mem_iff.1 (h1 r hr),by rw[sortC_length]at h2;exact h2,a,hp.mem_iff.1 h3,h4⟩
theorem groupsF_ne{cols:List Int}{rs:List (List Val)}(h:rs≠[]):groupsF cols rs≠[]:=by
 intro e
 unfold groupsF at e
 have hl:=sortC_length (cmpG cols) rs
 have h0:rs.length≠0:=fun h'=>h (List.eq_nil_of_length_eq_zero h')
 obtain ⟨n,hn⟩:∃ n,rs.length=n+1:=⟨rs.length - 1,by omega⟩
 rw[hn]at e
 cases hS:sortC (cmpG cols) rs with
 | nil=>rw[hS]at hl;simp at hl;omega
 | cons a t=>rw[hS]at e;simp[runsG]at e
def agF(n:LNX):Prop:=∀ a∈n.aggs,a.arg.length≤most∧rgE a.arg
noncomputable def partialF(n:LNX)(rs:List (List Val)):List (List Val)×Int:=groupedF n (fun _ a rows=>partF a.tag a.arg rows) rs
theorem partial_v(n:LNX)(b:Bool)(rs:List (List Val))(hrs:rs.length≤8000)(hne:rs≠[])(hr:∀ r∈rs,okR r=true)(hg:rgL rs)(hh:∀ r∈rs,hasC r n.keys=true)(hc:n.keys.length≤16)(h0:∀ c∈n.keys,0≤c)(hn:n.aggs.length≤8000)(ha:agF n)
  (hO:∀ O,foldL (grpG n fun _ a rows=>partF a.tag a.arg rows) (groupsF n.keys rs) 0 []=.inl O→∀ r∈O,okR r=true) :
  pcall I.qce [n.a,.imm b (rs.map rowX)]=some (.tup [.imm false ((partialF n rs).1.map rowX),.int .i64 (partialF n rs).2]):=by
 rw[pcall_eq c_qce rfl]
 have hG:=fun b=>grouped_v b rs n false (.fn 120 [] []) (fun _ a rows=>partF a.tag a.arg rows) hrs hr hh hc h0 (groupsF_ne hne) (fun g hg'=>by
   obtain ⟨_,_,a,_,h4⟩:=groupsF_sub hg'
   rw[h4,takeR_len];omega)
  (fun g hg'=>⟨fun base σ m=>by simp,⟨rfl,rfl⟩,fun i a σ hi=>by
   obtain ⟨h1,h2,_⟩:=groupsF_sub hg'
   obtain ⟨h5,h6⟩:=ha a (List.mem_of_getElem? hi)
   have:=fun b=>partial1_v i a b g.2 (by omega) h5 (fun r hr'=>hg r (h1 r hr')) h6
   have haz:∀ fl top σ,(fl || top)=true→fz fl top 0 σ 20 a.a=a.a:=fun fl top σ h=>Ft.ft fl top 0 σ 17 a h
   simp[haz,this]⟩) (by simp) hn hO
 have hnz:∀ base σ m,fz true false base σ (m+3) n.a=n.a:=fun base σ m=>Ft.ft true false base σ m n rfl
 have hnn:ncells n.a=12∧isAgg n.a=true:=⟨rfl,rfl⟩
 unfold partialF
 generalize groupedF n (fun _ a rows=>partF a.tag a.arg rows) rs=q at *
 simp[f_qce,b_qce,hnz,hnn,hG]
noncomputable def finalF(n:LNX)(rs:List (List Val)):List (List Val)×Int:=groupedF n (fun i a rows=>finF a.tag (ownF (n.keys.length+i) rows)) rs
theorem final_v(n:LNX)(b:Bool)(rs:List (List Val))(hrs:rs.length≤8000)(hne:rs≠[])(hr:∀ r∈rs,okR r=true)(hh:∀ r∈rs,hasC r n.keys=true)(hc:n.keys.length≤16)(h0:∀ c∈n.keys,0≤c)(hn:n.aggs.length≤8000)
  (hw:∀ r∈rs,n.keys.length+n.aggs.length≤r.length) (hf:∀ g∈groupsF n.keys rs,∀ (i:Nat) a,n.aggs[i]?=some a→finOk a.tag (ownF (n.keys.length+i) g.2))
  (hO:∀ O,foldL (grpG n fun i a rows=>finF a.tag (ownF (n.keys.length+i) rows)) (groupsF n.keys rs) 0 []=.inl O→∀ r∈O,okR r=true) :
  pcall I.qbs [n.a,.imm b (rs.map rowX)]=some (.tup [.imm false ((finalF n rs).1.map rowX),.int .i64 (finalF n rs).2]):=by
 rw[pcall_eq c_qbs rfl]
 have hG:=fun b=>grouped_v b rs n true (.fn 121 [] [.cptr true n.a 0]) (fun i a rows=>finF a.tag (ownF (n.keys.length+i) rows)) hrs hr hh hc h0 (groupsF_ne hne) (fun g hg'=>by
   obtain ⟨_,_,a,_,h4⟩:=groupsF_sub hg'
   rw[h4,takeR_len];omega)
  (fun g hg'=>⟨fun base σ m=>by
   rw[fz_fn]
   simp only[List.map_nil,List.map_cons,cptr_fz true n false true base σ m rfl],⟨rfl,rfl⟩,fun i a σ hi=>by
   obtain ⟨h1,h2,_⟩:=groupsF_sub hg'
   obtain ⟨hlt,_⟩:=List.getElem?_eq_some_iff.1 hi
   have:=fun b=>final1_v n true i a b g.2 (by omega) (by unfold most;omega) (fun r hr'=>by have:=hw r (h1 r hr');omega) (hf g hg' i a hi)
   have haz:∀ fl top σ,(fl || top)=true→fz fl top 0 σ 20 a.a=a.a:=fun fl top σ h=>Ft.ft fl top 0 σ 17 a h
   have hcz:∀ σ,fz true false 0 σ 20 (.cptr true n.a 0)=.cptr true n.a 0:=fun σ=>cptr_fz true n true false 0 σ 16 rfl
   simp[-fz_cptrt,haz,hcz,this]⟩) (by
   rw[fz_fn]
   simp only[List.map_nil,List.map_cons,cptr_fz true n true false 0 [] 15 rfl]) hn hO
 have hnz:∀ base σ m,fz true false base σ (m+3) n.a=n.a:=fun base σ m=>Ft.ft true false base σ m n rfl
 have hnn:ncells n.a=12∧isAgg n.a=true:=⟨rfl,rfl⟩
 unfold finalF
 generalize groupedF n (fun i a rows=>finF a.tag (ownF (n.keys.length+i) rows)) rs=q at *
 simp[f_qbs,b_qbs,hnz,hnn,hG]
end Go.AM
end
namespace Go.AM
theorem two_nodes{K:List Int}{n:LNX}(h:kOk (kindsF [inN K,overN n])=true):K.length≤16∧0 < K.length∧stepF [inN K,overN n] 1 (overN n) [⟨true,K⟩] [0]≠none:=by
 unfold kindsF at h
 rw[if_neg (by simp)]at h
 cases hk:kgo [inN K,overN n] [inN K,overN n] 0 [] [] with
 | inr i=>rw[hk]at h;cases h
 | inl q=>
  simp only[kgo]at hk
  cases hs:stepF [inN K,overN n] 0 (inN K) [] [] with
  | none=>rw[hs]at hk;cases hk
  | some r=>
   rw[hs]at hk
   simp only[List.nil_append]at hk
   have hr:r=(⟨true,K⟩,[0])∧inputF (inN K)=true:=by
    unfold stepF at hs
    have hp:preF (inN K) []=some []:=by simp[preF,inN,partsF,blankF]
    rw[hp]at hs
    simp only[List.any_nil,Bool.false_eq_true,false_or,List.map_nil]at hs
    split at hs
    ·cases hs
    ·have ho:opF [inN K,overN n] (inN K) []=if inputF (inN K) then some ⟨true,K⟩ else none:=rfl
     rw[ho]at hs
     split at hs
     ·cases hs
     ·rename_i res he
      split at he
      ·rename_i hin
       cases he
       split at hs
       ·cases hs
       ·cases hs;exact ⟨rfl,hin⟩
      ·cases he
   obtain ⟨hr,hin⟩:=hr
   rw[hr]at hk
   unfold inputF inN at hin
   simp only[Bool.and_eq_true,decide_eq_true_eq]at hin
   refine ⟨hin.2,hin.1.2,?_⟩
   intro h0
   simp only at hk
   rw[h0]at hk;cases hk
structure PartOk (K:List Int) (n:LNX):Prop where
 keys:∀ k∈n.keys,0≤k∧k < K.length
 k3:n.keys.length≤3
 a12:n.aggs.length≤12
 ag:∀ g∈n.aggs,(aggK K g).1=true
 no4:∀ k∈K,k≠4
theorem partOk{K:List Int}{n:LNX}(hop:n.op=10)(h:kOk (kindsF [inN K,overN n])=true):PartOk K n:=by
 obtain ⟨_,_,hs⟩:=two_nodes h
 unfold stepF at hs
 cases hp:preF (overN n) [0] with
 | none=>rw[hp]at hs;exact absurd rfl hs
 | some ps=>
  rw[hp]at hs
  simp only at hs
  have hps:ps=[0]:=by
   unfold preF at hp
   split at hp
   ·cases hp
   ·have:partsF (overN n).op=1:=by simp[overN,hop,partsF]
    rw[this]at hp
    simp[overN]at hp
    exact hp.symm
  subst hps
  split at hs
  ·exact absurd rfl hs
  ·rename_i hno
   simp only[List.map_cons,List.map_nil]at hs
   have e:([⟨true,K⟩]:List (SlX Int)).getD 0 noSl=⟨true,K⟩:=rfl
   rw[e]at hs
   have hop':(overN n).op=10:=hop
   have ho:opF [inN K,overN n] (overN n) [⟨true,K⟩]=((keysF K n.keys).bind fun ks=>if aggsOk n K then some ⟨false,ks++n.aggs.map (partK K)⟩ else none):=by
    unfold opF
    simp only[hop']
    rfl
   rw[ho]at hs
   simp only[List.any_cons,List.any_nil,Bool.or_false,e]at hno
   cases hkf:keysF K n.keys with
   | none=>rw[hkf]at hs;exact absurd rfl hs
   | some ks=>
    rw[hkf]at hs
    simp only[Option.bind_some]at hs
    cases ha:aggsOk n K with
    | false=>rw[ha]at hs;exact absurd rfl hs
    | true=>
     unfold aggsOk at ha
     simp only[Bool.and_eq_true,decide_eq_true_eq]at ha
     refine ⟨fun k hk=>?_,ha.1.1.1,ha.1.1.2,fun g hg=>List.all_eq_true.1 ha.2 g hg,fun k hk h4=>?_⟩
     ·unfold keysF at hkf
      split at hkf
      ·rename_i hall
       have:=List.all_eq_true.1 hall k hk
       simpa using this
      ·cases hkf
     ·apply hno
      left
      subst h4
      simp only[hop',sum4,Bool.and_eq_true]
      exact ⟨rfl,List.any_eq_true.2 ⟨4,hk,by simp⟩⟩
structure FinOk (K:List Int) (n:LNX):Prop where
 k3:n.keys.length≤3
 a12:n.aggs.length≤12
 len:n.keys.length+n.aggs.length=K.length
 keys:finKeys K 0 n.keys=true
 ags:finAggs K n.keys.length n.aggs=true
theorem finOkN{K:List Int}{n:LNX}(hop:n.op=11)(h:kOk (kindsF [inN K,overN n])=true):FinOk K n:=by
 obtain ⟨_,_,hs⟩:=two_nodes h
 unfold stepF at hs
 cases hp:preF (overN n) [0] with
 | none=>rw[hp]at hs;exact absurd rfl hs
 | some ps=>
  rw[hp]at hs
  simp only at hs
  have hps:ps=[0]:=by
   unfold preF at hp
   split at hp
   ·cases hp
   ·have:partsF (overN n).op=1:=by simp[overN,hop,partsF]
    rw[this]at hp
    simp[overN]at hp
    exact hp.symm
  subst hps
  split at hs
  ·exact absurd rfl hs
  ·simp only[List.map_cons,List.map_nil]at hs
   have e:([⟨true,K⟩]:List (SlX Int)).getD 0 noSl=⟨true,K⟩:=rfl
   rw[e]at hs
   have hop':(overN n).op=11:=hop
   have ho:opF [inN K,overN n] (overN n) [⟨true,K⟩]=if finHead n (inN K) K&&(finKeys K 0 n.keys&&finAggs K n.keys.length n.aggs) then some ⟨false,finSet n.keys.length n.aggs K⟩ else none:=by
    unfold opF
    simp only[hop']
    rfl
   rw[ho]at hs
   cases ha:(finHead n (inN K) K&&(finKeys K 0 n.keys&&finAggs K n.keys.length n.aggs)) with
   | false=>rw[ha]at hs;exact absurd rfl hs
   | true=>
    unfold finHead at ha
    simp only[Bool.and_eq_true,decide_eq_true_eq,beq_iff_eq]at ha
    exact ⟨ha.1.1.1.2,ha.1.1.2,ha.1.2,ha.2.1,ha.2.2⟩
end Go.AM
section
namespace Go.AM
open P
set_option maxRecDepth 8000
set_option maxHeartbeats 8000000
attribute [local simp] condRun_if when_if
end Go.AM
end
section
namespace Go.AM
open P
set_option maxRecDepth 8000
set_option maxHeartbeats 8000000
attribute [local simp] condRun_if when_if
def cellsP:Nat→List (List (List Val))→List AVal
 | _,[]=>[]
 | j,p::r=>.sl j p.length 0 p.length::cellsP (j+1) r
def objsP(P:List (List (List Val))):List Obj:=P.map fun p=>.arr 1 p.length (p.map rowX)
@[simp] theorem cellsP_len:∀ (P:List (List (List Val))) (j:Nat),(cellsP j P).length=P.length
 | [],_=>rfl
 | _::r,j=>by simp[cellsP,cellsP_len r]
theorem cellsP_get:∀ {P:List (List (List Val))} {j i:Nat} {p:List (List Val)},P[i]?=some p→(cellsP j P)[i]?=some (.sl (i+j) p.length 0 p.length)
 | [],_,i,p,h=>by simp at h
 | q::r,j,0,p,h=>by simp at h;subst h;simp[cellsP]
 | q::r,j,i+1,p,h=>by
  simp at h
  simp only[cellsP,List.getElem?_cons_succ]
  rw[cellsP_get h]
  simp;omega
theorem cellsP_set:∀ (P:List (List (List Val))) (j i:Nat) (q:List (List Val)),cellsP j (P.set i q)=(cellsP j P).set i (.sl (i+j) q.length 0 q.length)
 | [],_,_,_=>rfl
 | p::r,j,0,q=>by simp[cellsP]
 | p::r,j,i+1,q=>by
  simp only[List.set_cons_succ,cellsP]
  rw[cellsP_set r]
  congr 3
  omega
theorem objsP_get{P:List (List (List Val))}{i:Nat}{p:List (List Val)}(h:P[i]?=some p):(objsP P)[i]?=some (.arr 1 p.length (p.map rowX)):=by simp[objsP,h]
theorem objsP_set(P:List (List (List Val)))(i:Nat)(q:List (List Val)):objsP (P.set i q)=(objsP P).set i (.arr 1 q.length (q.map rowX)):=by simp[objsP,List.map_set]
@[simp] theorem objsP_len(P:List (List (List Val))):(objsP P).length=P.length:=by simp[objsP]
end Go.AM
end
section
namespace Go.AM
open P
set_option maxRecDepth 8000
set_option maxHeartbeats 8000000
attribute [local simp] condRun_if when_if
end Go.AM
end
section
namespace Go.AM
open P
set_option maxRecDepth 8000
set_option maxHeartbeats 8000000
attribute [local simp] condRun_if when_if
theorem fitR_ok{root:List Int}{r:List Val}(hl:root.length≤16)(h:fitR root r=true):okR r=true∧r.length=root.length:=by
 unfold fitR at h
 simp only[Bool.and_eq_true,beq_iff_eq]at h
 obtain ⟨h1,h2⟩:=h
 refine ⟨?_,h1⟩
 unfold okR
 simp only[Bool.and_eq_true,decide_eq_true_eq]
 refine ⟨by omega,?_⟩
 rw[List.all_eq_true]
 intro v hv
 obtain ⟨i,hi,rfl⟩:=List.mem_iff_getElem.1 hv
 have hz:(r[i],root[i]'(by omega))∈r.zip root:=by
  rw[List.mem_iff_getElem]
  exact ⟨i,by simp;omega,by simp⟩
 have:=List.all_eq_true.1 h2 _ hz
 unfold fitV at this
 simp only[Bool.and_eq_true]at this
 exact this.1
end Go.AM
end
section
namespace Go.AM
open P
set_option maxHeartbeats 8000000
set_option maxRecDepth 8000
attribute [local simp] condRun_if when_if
def gVals(n:LNX)(doF:Nat→AggX→List (List Val)→Val×Int)(rows:List (List Val)):List (Val×Int):=n.aggs.zipIdx.map fun p=>doF p.2 p.1 rows
def gOk(n:LNX)(doF:Nat→AggX→List (List Val)→Val×Int)(g:List Val×List (List Val)):Bool:=(gVals n doF g.2).all fun q=>q.2 == 0
def gRow(n:LNX)(doF:Nat→AggX→List (List Val)→Val×Int)(g:List Val×List (List Val)):List Val:=g.1++(gVals n doF g.2).map (·.1)
theorem aggG_fold(doF:Nat→AggX→List (List Val)→Val×Int)(rows:List (List Val)):∀ (l:List AggX) (k:Nat) (acc:List Val),
  foldL (aggG doF rows) l k acc=if ((l.zipIdx k).map fun p=>doF p.2 p.1 rows).all (fun q=>q.2 == 0) then .inl (acc++((l.zipIdx k).map fun p=>doF p.2 p.1 rows).map (·.1)) else .inr ()
 | [],k,acc=>by simp[foldL]
 | a::l,k,acc=>by
  simp only[foldL,aggG]
  by_cases h:(doF k a rows).2=0
  ·rw[if_pos h]
   simp only
   rw[aggG_fold doF rows l (k+1)]
   simp only[List.zipIdx_cons,List.map_cons,List.all_cons,h,beq_self_eq_true,Bool.true_and,List.append_assoc,List.cons_append,List.nil_append]
  ·rw[if_neg h]
   simp[List.zipIdx_cons,h]
theorem grpG_fold(n:LNX)(doF:Nat→AggX→List (List Val)→Val×Int):∀ (G:List (List Val×List (List Val))) (k:Nat) (O:List (List Val)),
  foldL (grpG n doF) G k O=if G.all (gOk n doF) then .inl (O++G.map (gRow n doF)) else .inr ()
 | [],k,O=>by simp[foldL]
 | g::G,k,O=>by
  simp only[foldL,grpG]
  rw[aggG_fold doF g.2 n.aggs 0 g.1]
  have e:((n.aggs.zipIdx 0).map fun p=>doF p.2 p.1 g.2)=gVals n doF g.2:=rfl
  rw[e]
  by_cases h:gOk n doF g=true
  ·have h':=h
   unfold gOk at h'
   rw[h']
   simp only[if_true]
   rw[grpG_fold n doF G (k+1)]
   simp only[List.all_cons,h,Bool.true_and,List.map_cons,List.append_assoc,List.cons_append,List.nil_append]
   rfl
  ·have h':(gVals n doF g.2).all (fun q=>q.2 == 0)=false:=Bool.eq_false_iff.2 h
   rw[h']
   simp[h]
theorem groupedF_eq(n:LNX)(doF:Nat→AggX→List (List Val)→Val×Int)(rs:List (List Val)):groupedF n doF rs=if (groupsF n.keys rs).all (gOk n doF) then (sortC cmpR ((groupsF n.keys rs).map (gRow n doF)),0) else ([],140):=by
 unfold groupedF
 rw[grpG_fold]
 cases (groupsF n.keys rs).all (gOk n doF)<;>simp
theorem okV_int(n:Int):okV (intVal n)=true:=by simp[okV,blankV,intVal]
theorem okV_end(s:Option Int):okV (endF s).1=true:=by
 cases s with
 | none=>exact okV_zero
 | some x=>unfold endF;simp only;split;exact okV_int _;exact okV_zero
theorem okV_least{l:List Val}(h:∀ v∈l,okV v=true):okV (leastF l)=true:=by
 cases l with
 | nil=>exact okV_zero
 | cons v r=>
  rcases minF_mem cmpV r v with e|e
  ·unfold leastF;simp only;rw[e];exact h v (by simp)
  ·exact h _ (List.mem_cons_of_mem _ e)
theorem okV_greatest{l:List Val}(h:∀ v∈l,okV v=true):okV (greatestF l)=true:=by
 cases l with
 | nil=>exact okV_zero
 | cons v r=>
  rcases maxF_mem cmpV r v with e|e
  ·unfold greatestF;simp only;rw[e];exact h v (by simp)
  ·exact h _ (List.mem_cons_of_mem _ e)
theorem okV_aggF(tag:Int){e:List EN}{rs:List (List Val)}(hr:rgL rs)(hE:rgE e):okV (aggF tag e rs).1=true:=by
 have hI:=argsF_Iv (e:=e) (rs:=rs) hr hE
 unfold aggF
 repeat' split
 all_goals first|exact okV_int _|exact okV_zero|exact okV_end _|exact okV_least fun v hv=>Iv_ok (hI v hv)|exact okV_greatest fun v hv=>Iv_ok (hI v hv)
theorem okV_partF(tag:Int){e:List EN}{rs:List (List Val)}(hr:rgL rs)(hE:rgE e):okV (partF tag e rs).1=true:=by
 unfold partF
 split
 ·unfold partS
  have key:∀ (m:List (List Val)) k s,match foldL (partG e) m k s with
    | .inl _=>True
    | .inr p=>okV p.1=true:=by
   intro m
   induction m with
   | nil=>intro k s;trivial
   | cons r m ih=>
    intro k s
    simp only[foldL]
    cases hg:partG e k r s with
    | inl s'=>exact ih _ _
    | inr p=>
     unfold partG at hg
     simp only
     split at hg
     ·cases hg;exact okV_st s
     ·split at hg
      ·cases hg;exact okV_zero
      ·cases hg
  have:=key rs 0 none
  split
  ·exact okV_st _
  ·rename_i p h
   rw[h]at this
   exact this
 ·unfold AggF
  split
  ·exact okV_aggF tag hr hE
  ·exact okV_zero
theorem okV_finF(tag:Int){own:List Val}(h:∀ v∈own,okV v=true):okV (finF tag own).1=true:=by
 unfold finF
 repeat' split
 all_goals first|exact okV_end _|exact okV_least h|exact okV_greatest h
theorem gVals_len(n:LNX)(doF:Nat→AggX→List (List Val)→Val×Int)(rows:List (List Val)):(gVals n doF rows).length=n.aggs.length:=by simp[gVals]
theorem okR_mem{r:List Val}(h:okR r=true):r.length≤16∧∀ v∈r,okV v=true:=by
 unfold okR at h
 simp only[Bool.and_eq_true,decide_eq_true_eq]at h
 exact ⟨h.1,fun v hv=>List.all_eq_true.1 h.2 v hv⟩
theorem gRow_ok{n:LNX}{doF:Nat→AggX→List (List Val)→Val×Int}{rs:List (List Val)}{g:List Val×List (List Val)}(hg:g∈groupsF n.keys rs)(hr:∀ r∈rs,okR r=true)(hh:∀ r∈rs,hasC r n.keys=true)(hl:n.keys.length+n.aggs.length≤16)
  (hv:∀ (i:Nat) a,n.aggs[i]?=some a→okV (doF i a g.2).1=true):okR (gRow n doF g)=true:=by
 obtain ⟨_,_,a,ha,h4⟩:=groupsF_sub hg
 unfold okR gRow
 simp only[Bool.and_eq_true,decide_eq_true_eq,List.length_append,List.length_map,gVals_len]
 refine ⟨by rw[h4,takeR_len];exact hl,?_⟩
 rw[List.all_eq_true]
 intro v hv'
 rcases List.mem_append.1 hv' with hv'|hv'
 ·rw[h4]at hv'
  exact (okR_mem (hr a ha)).2 v (takeR_sub (hasC_in (hh a ha)).2 v hv')
 ·obtain ⟨q,hq,rfl⟩:=List.mem_map.1 hv'
  obtain ⟨p,hp,rfl⟩:=List.mem_map.1 hq
  obtain ⟨x,i⟩:=p
  have:=List.mem_zipIdx_iff_getElem?.1 hp
  exact hv i x (by simpa using this)
end Go.AM
end
section
namespace Go.AM
open P
set_option maxHeartbeats 8000000
set_option maxRecDepth 8000
attribute [local simp] condRun_if when_if
structure AskOk (n:LNX) (op:Int) (rs:List (List Val)):Prop where
 op:n.op=op
 ne:rs≠[]
 len:rs.length≤8000
 kinds:kOk (kindsF [inN (kindsL rs),overN n])=true
 fit:fitL (kindsL rs) rs=true
theorem askOk{n:LNX}{op:Int}{rs:List (List Val)}(h:askedF n op rs=true):AskOk n op rs:=by
 unfold askedF at h
 simp only[Bool.and_eq_true,decide_eq_true_eq,beq_iff_eq]at h
 exact ⟨h.1.1.1.1,h.1.1.1.2,h.1.1.2,h.1.2,h.2⟩
theorem AskOk.row{n:LNX}{op:Int}{rs:List (List Val)}(h:AskOk n op rs):∀ r∈rs,okR r=true∧r.length=(kindsL rs).length:=fun r hr=>by
 have hk:=(two_nodes h.kinds).1
 have hf:=h.fit
 unfold fitL at hf
 simp only[Bool.and_eq_true,decide_eq_true_eq]at hf
 exact fitR_ok hk (List.all_eq_true.1 hf.2 r hr)
theorem hasC_of{r:List Val}{cols:List Int}(h1:cols.length≤16)(h:∀ c∈cols,0≤c∧c < r.length):hasC r cols=true:=by
 unfold hasC
 simp only[Bool.and_eq_true,decide_eq_true_eq]
 refine ⟨h1,?_⟩
 rw[List.all_eq_true]
 intro c hc
 have:=h c hc
 unfold inC
 simp;omega
noncomputable def PartialF(n:LNX)(rs:List (List Val)):List (List Val)×Int:=if askedF n 10 rs=true then partialF n rs else ([],2)
theorem part_keys{n:LNX}{rs:List (List Val)}(h:AskOk n 10 rs):(∀ c∈n.keys,0≤c)∧(∀ r∈rs,hasC r n.keys=true):=by
 have hp:=partOk h.op h.kinds
 have hk3:=hp.k3
 refine ⟨fun c hc=>(hp.keys c hc).1,fun r hr=>hasC_of (by omega) fun c hc=>?_⟩
 have:=hp.keys c hc
 have hl:=(h.row r hr).2
 omega
theorem Partial_v(n:LNX)(b:Bool)(rs:List (List Val))(hF:NFit n)(ha:agF n)(hg:rgL rs)(hm:∀ r∈rs,r.length≤m32) :
  pcall I.qbn [n.a,.imm b (rs.map rowX)]=some (.tup [.imm false ((PartialF n rs).1.map rowX),.int .i64 (PartialF n rs).2]):=by
 rw[pcall_eq c_qbn rfl]
 have hk:=fun b=>asked_v n 10 b rs hF hm
 have hnz:∀ base σ m,fz true false base σ (m+3) n.a=n.a:=fun base σ m=>Ft.ft true false base σ m n rfl
 have hnn:ncells n.a=12∧isAgg n.a=true:=⟨rfl,rfl⟩
 unfold PartialF
 cases hq:askedF n 10 rs with
 | false=>
  rw[hq]at hk
  simp[f_qbn,b_qbn,hnz,hnn,hk]
 | true=>
  rw[hq]at hk
  have h:=askOk hq
  have hp:=partOk h.op h.kinds
  have hk3:=hp.k3
  have ha12:=hp.a12
  obtain ⟨h0,hh⟩:=part_keys h
  have hP:=fun b=>partial_v n b rs h.len h.ne (fun r hr=>(h.row r hr).1) hg hh (by omega) h0 (by omega) ha (fun O hO r hr=>by
   rw[grpG_fold]at hO
   split at hO
   ·cases hO
    rw[List.nil_append]at hr
    obtain ⟨g,hg',rfl⟩:=List.mem_map.1 hr
    refine gRow_ok hg' (fun r hr=>(h.row r hr).1) hh (by omega) fun i a hi=>?_
    exact okV_partF a.tag (fun r hr'=>hg r ((groupsF_sub hg').1 r hr')) (ha a (List.mem_of_getElem? hi)).2
   ·cases hO)
  generalize partialF n rs=q at *
  simp[f_qbn,b_qbn,hnz,hnn,hk,hP]
noncomputable def FinalF(n:LNX)(rs:List (List Val)):List (List Val)×Int:=if askedF n 11 rs=true then finalF n rs else ([],2)
theorem finKeys_at{a:List Int}:∀ {l:List Int} {k:Nat},finKeys a k l=true→∀ i (h:i < l.length),l[i]=((k+i:Nat):Int)
 | [],k,_,i,h=>by cases h
 | x::l,k,hf,i,h=>by
  simp only[finKeys,Bool.and_eq_true,beq_iff_eq]at hf
  cases i with
  | zero=>simpa using hf.1.1
  | succ i=>
   have:=finKeys_at hf.2 i (by simpa using h)
   simp only[List.getElem_cons_succ,this]
   omega
theorem fin_keys{n:LNX}{rs:List (List Val)}(h:AskOk n 11 rs):(∀ c∈n.keys,0≤c)∧(∀ r∈rs,hasC r n.keys=true)∧∀ r∈rs,n.keys.length+n.aggs.length≤r.length:=by
 have hp:=finOkN h.op h.kinds
 have hk3:=hp.k3
 have hl:=hp.len
 have hat:=finKeys_at hp.keys
 have hin:∀ c∈n.keys,0≤c∧c < n.keys.length:=fun c hc=>by
  obtain ⟨i,hi,rfl⟩:=List.mem_iff_getElem.1 hc
  rw[hat i hi];omega
 refine ⟨fun c hc=>(hin c hc).1,fun r hr=>hasC_of (by omega) fun c hc=>?_,fun r hr=>?_⟩
 ·have:=hin c hc
  have hrl:=(h.row r hr).2
  omega
 ·have hrl:=(h.row r hr).2
  omega
theorem Final_v(n:LNX)(b:Bool)(rs:List (List Val))(hF:NFit n)(hm:∀ r∈rs,r.length≤m32)
  (hf:askedF n 11 rs=true→∀ g∈groupsF n.keys rs,∀ (i:Nat) a,n.aggs[i]?=some a→finOk a.tag (ownF (n.keys.length+i) g.2)) :
  pcall I.qbm [n.a,.imm b (rs.map rowX)]=some (.tup [.imm false ((FinalF n rs).1.map rowX),.int .i64 (FinalF n rs).2]):=by
 rw[pcall_eq c_qbm rfl]
 have hk:=fun b=>asked_v n 11 b rs hF hm
 have hnz:∀ base σ m,fz true false base σ (m+3) n.a=n.a:=fun base σ m=>Ft.ft true false base σ m n rfl
 have hnn:ncells n.a=12∧isAgg n.a=true:=⟨rfl,rfl⟩
 unfold FinalF
 cases hq:askedF n 11 rs with
 | false=>
  rw[hq]at hk
  simp[f_qbm,b_qbm,hnz,hnn,hk]
 | true=>
  rw[hq]at hk
  have h:=askOk hq
  have hp:=finOkN h.op h.kinds
  have hk3:=hp.k3
  have ha12:=hp.a12
  obtain ⟨h0,hh,hw⟩:=fin_keys h
  have hP:=fun b=>final_v n b rs h.len h.ne (fun r hr=>(h.row r hr).1) hh (by omega) h0 (by omega) hw (hf hq) (fun O hO r hr=>by
   rw[grpG_fold]at hO
   split at hO
   ·cases hO
    rw[List.nil_append]at hr
    obtain ⟨g,hg',rfl⟩:=List.mem_map.1 hr
    refine gRow_ok hg' (fun r hr=>(h.row r hr).1) hh (by omega) fun i a hi=>?_
    exact okV_finF a.tag (hf hq g hg' i a hi).2.2
   ·cases hO)
  generalize finalF n rs=q at *
  simp[f_qbm,b_qbm,hnz,hnn,hk,hP]
end Go.AM
end
section
namespace Go.AM
open P
set_option maxHeartbeats 8000000
set_option maxRecDepth 8000
attribute [local simp] condRun_if when_if
def kOf(by':List Int)(i:Nat):Int:=if by'=[] then i else by'.getD (i % by'.length) 0
def atK(by':List Int)(i:Nat):Nat:=((IntKind.u64.wrap (kOf by' i)).tmod 4).toNat
def splitG(by':List Int)(i:Nat)(r:List Val)(P:List (List (List Val))):List (List (List Val))⊕Empty:=.inl (P.set (atK by' i) (P.getD (atK by' i) []++[r]))
def splitL(by':List Int):List (List Val)→Nat→List (List (List Val))→List (List (List Val))
 | [],_,P=>P
 | r::t,i,P=>splitL by' t (i+1) (P.set (atK by' i) (P.getD (atK by' i) []++[r]))
theorem splitL_fold(by':List Int):∀ (l:List (List Val)) (i:Nat) (P:List (List (List Val))),foldL (splitG by') l i P=.inl (splitL by' l i P)
 | [],_,_=>rfl
 | r::t,i,P=>by
  simp only[foldL,splitG,splitL]
  exact splitL_fold by' t (i+1) _
theorem atK_lt(by':List Int)(i:Nat):atK by' i < 4:=by
 unfold atK
 have h:0≤IntKind.u64.wrap (kOf by' i):=by
  simp[IntKind.wrap,IntKind.bits,IntKind.signed];omega
 rw[Int.tmod_eq_emod_of_nonneg h];omega
def splitF(by':List Int)(R:List (List Val)):List (List (List Val)):=splitL by' R 0 [[],[],[],[]]
theorem split_v(by':List Int)(bb:Bool)(R:List (List Val))(hR:R.length≤8000)(O0 O1:Obj) :
  acall code I.qah [.imm false (R.map rowX),.imm bb (intC by')] [O0,O1]=some (.sl 2 0 0 4,O0::O1::.arr 1 0 (cellsP 3 (splitF by' R))::objsP (splitF by' R))∧(splitF by' R).length=4:=by
 rw[acall_keep c_qah rfl]
 have hm:R.length≤most:=by unfold most;omega
 have h:=rounds_list (base:=7) (clr:=[4,5,6,10,11]) (b:=l_qah_0) R
  (fun k (P:List (List (List Val)))=>⟨[.imm false (R.map rowX),.imm bb (intC by'),.nil0,.sl 2 0 0 4,.any,.any,.any,.imm false (R.map rowX),.int .i64 R.length,.int .i64 k,.any,.any],O0::O1::.arr 1 0 (cellsP 3 P)::objsP P⟩)
  (fun k P=>P.length=4∧∀ p∈P,p.length≤k) (splitG by')
  (fun P=>(.ext 0,⟨[.imm false (R.map rowX),.imm bb (intC by'),.nil0,.sl 2 0 0 4,.any,.any,.any,.imm false (R.map rowX),.int .i64 R.length,.int .i64 R.length,.bool false,.any],O0::O1::.arr 1 0 (cellsP 3 P)::objsP P⟩))
  (fun (r:Empty) _=>r.elim)
  (fun k r P hk hy hP=>by
   obtain ⟨hP1,hP2⟩:=hP
   have hlt:((k:Int) < (R.length:Int)):=by omega
   have hj4:=atK_lt by' k
   have hj:atK by' k < P.length:=by omega
   have hp:P[atK by' k]?=some (P.getD (atK by' k) []):=by rw[List.getD_eq_getElem?_getD,List.getElem?_eq_getElem hj];rfl
   have hpl:(P.getD (atK by' k) []).length≤k:=hP2 _ (List.mem_of_getElem? hp)
   have hc:=cellsP_get (j:=3) hp
   have ho:=objsP_get hp
   unfold splitG
   have es:=cellsP_set P 3 (atK by' k) (P.getD (atK by' k) []++[r])
   have eo:=objsP_set P (atK by' k) (P.getD (atK by' k) []++[r])
   simp only
   rw[es,eo]
   have hnn:0≤(IntKind.u64.wrap (kOf by' k)).tmod 4:=by
    have h:0≤IntKind.u64.wrap (kOf by' k):=by
     simp[IntKind.wrap,IntKind.bits,IntKind.signed];omega
    rw[Int.tmod_eq_emod_of_nonneg h];omega
   have hT:(IntKind.u64.wrap (kOf by' k)).tmod 4=((atK by' k:Nat):Int):=by unfold atK;omega
   have hk0:by'=[]∨(0 < by'.length∧kOf by' k=by'.getD (k % by'.length) 0):=by
    by_cases h:by'=[]
    ·exact .inl h
    ·right
     refine ⟨by have:by'.length≠0:=fun e=>h (List.eq_nil_of_length_eq_zero e);omega,?_⟩
     unfold kOf;rw[if_neg h]
   have hk1:by'=[]→kOf by' k=k:=fun h=>by unfold kOf;rw[if_pos h]
   generalize hA:atK by' k=j at *
   generalize P.getD j []=p at *
   obtain ⟨_,hcg⟩:=List.getElem?_eq_some_iff.1 hc
   obtain ⟨_,hog⟩:=List.getElem?_eq_some_iff.1 ho
   have q1:p.length+1≤most:=by unfold most at *;omega
   refine ⟨?_,by simpa using hP1,fun q hq=>?_⟩
   ·rcases hk0 with h0|⟨h0,h1⟩
    ·have h1:=hk1 h0
     rw[h1]at hT
     subst h0
     simp[l_qah_0,hlt,hy,hT,hc,ho,hcg,hog,hj4,hP1,q1,append,roundEnd_same,wrap_lt hk hm]
    ·have h2:k % by'.length < by'.length:=Nat.mod_lt _ h0
     have h3:by'[k % by'.length]?=some by'[k % by'.length]:=List.getElem?_eq_getElem h2
     rw[List.getD_eq_getElem?_getD,h3]at h1
     simp only[Option.getD_some]at h1
     rw[h1]at hT
     generalize by'[k % by'.length]=x at *
     have h4:((0:Int) < by'.length):=by omega
     have h5:((k:Int)).tmod (by'.length:Int)=((k % by'.length:Nat):Int):=by rw[Int.tmod_eq_emod_of_nonneg (by omega)];rfl
     have h6:¬((by'.length:Int)=0):=by omega
     have h7:¬(by'=[]):=fun e=>by rw[e]at h0;simp at h0
     have h8:((k:Int)).tmod (by'.length:Int)=(k:Int) % (by'.length:Int):=Int.tmod_eq_emod_of_nonneg (by omega)
     have h9:((k:Int) % (by'.length:Int)).toNat=k % by'.length:=by rw[← h8,h5];rfl
     have h10:(0:Int)≤(k:Int) % (by'.length:Int):=by rw[← h8,h5];omega
     simp[l_qah_0,hlt,hy,h0,h3,h6,h7,h8,h9,h10,hT,hc,ho,hcg,hog,hj4,hP1,q1,append,roundEnd_same,wrap_lt hk hm]
   ·rcases List.mem_or_eq_of_mem_set hq with h|h
    ·have:=hP2 q h;omega
    ·rw[h];simp;omega)
  (fun P _=>by simp[l_qah_0]) [[],[],[],[]] ⟨rfl,by simp⟩
 rw[splitL_fold]at h
 obtain ⟨⟨h1,h2⟩,h3⟩:=h
 refine ⟨?_,h1⟩
 have e:splitL by' R 0 [[],[],[],[]]=splitF by' R:=rfl
 rw[e]at h3
 generalize splitF by' R=P at *
 simp[cellsP,objsP]at h3
 simp only[objsP]
 simp[f_qah,b_qah,most,h3]
end Go.AM
end
namespace Go.AM
theorem minF_le:∀ (l:List Val) (m:Val),∀ x∈m::l,cmpV (minF cmpV m l) x≤0
 | [],m,x,hx=>by rw[List.mem_singleton.1 hx];exact Int.le_of_eq (cmpV_ok.self m)
 | v::l,m,x,hx=>by
  have ih:=minF_le l (if cmpV v m < 0 then v else m)
  show cmpV (minF cmpV (if cmpV v m < 0 then v else m) l) x≤0
  have h0:=ih _ (List.mem_cons_self ..)
  rcases List.mem_cons.1 hx with rfl|hx
  ·split at h0
   ·rename_i h
    rw[if_pos h]
    exact Int.le_of_lt (cmpV_ok.le_lt h0 h)
   ·rename_i h
    rw[if_neg h];exact h0
  ·rcases List.mem_cons.1 hx with rfl|hx
   ·split at h0
    ·rename_i h
     rw[if_pos h];exact h0
    ·rename_i h
     rw[if_neg h]
     refine cmpV_ok.tr _ _ _ h0 ?_
     have h1:=cmpV_ok.anti m x
     have h2:=cmpV_ok.anti x m
     omega
   ·exact ih x (List.mem_cons_of_mem _ hx)
theorem maxF_le:∀ (l:List Val) (m:Val),∀ x∈m::l,cmpV x (maxF cmpV m l)≤0
 | [],m,x,hx=>by rw[List.mem_singleton.1 hx];exact Int.le_of_eq (cmpV_ok.self m)
 | v::l,m,x,hx=>by
  have ih:=maxF_le l (if 0 < cmpV v m then v else m)
  show cmpV x (maxF cmpV (if 0 < cmpV v m then v else m) l)≤0
  have h0:=ih _ (List.mem_cons_self ..)
  rcases List.mem_cons.1 hx with rfl|hx
  ·split at h0
   ·rename_i h
    rw[if_pos h]
    have h1:=(cmpV_ok.anti x v).2 h
    exact Int.le_of_lt (cmpV_ok.lt_le h1 h0)
   ·rename_i h
    rw[if_neg h];exact h0
  ·rcases List.mem_cons.1 hx with rfl|hx
   ·split at h0
    ·rename_i h
     rw[if_pos h];exact h0
    ·rename_i h
     rw[if_neg h]
     exact cmpV_ok.tr _ _ _ (by omega) h0
   ·exact ih x (List.mem_cons_of_mem _ hx)
theorem leastF_spec{l:List Val}(h:l≠[]):leastF l∈l∧∀ x∈l,cmpV (leastF l) x≤0:=by
 cases l with
 | nil=>exact absurd rfl h
 | cons v r=>
  refine ⟨?_,minF_le r v⟩
  rcases minF_mem cmpV r v with e|e
  ·unfold leastF;simp only;rw[e];simp
  ·exact List.mem_cons_of_mem _ e
theorem greatestF_spec{l:List Val}(h:l≠[]):greatestF l∈l∧∀ x∈l,cmpV x (greatestF l)≤0:=by
 cases l with
 | nil=>exact absurd rfl h
 | cons v r=>
  refine ⟨?_,maxF_le r v⟩
  rcases maxF_mem cmpV r v with e|e
  ·unfold greatestF;simp only;rw[e];simp
  ·exact List.mem_cons_of_mem _ e
theorem cmpV_anti{a b:Val}(h1:cmpV a b≤0)(h2:cmpV b a≤0):a=b:=by
 refine cmpV_zero ?_
 have:=cmpV_ok.anti a b
 have:=cmpV_ok.anti b a
 omega
theorem leastF_uniq{l:List Val}{m:Val}(hm:m∈l)(h:∀ x∈l,cmpV m x≤0):leastF l=m:=by
 have:=leastF_spec (List.ne_nil_of_mem hm)
 exact cmpV_anti (this.2 m hm) (h _ this.1)
theorem greatestF_uniq{l:List Val}{m:Val}(hm:m∈l)(h:∀ x∈l,cmpV x m≤0):greatestF l=m:=by
 have:=greatestF_spec (List.ne_nil_of_mem hm)
 exact cmpV_anti (h _ this.1) (this.2 m hm)
theorem sumL_some:∀ (l:List Val) (x:Int),(∀ v∈l,v.k≠0)→l.foldl sumF (some x)=some (x+(l.map (·.n)).sum)
 | [],x,_=>by simp
 | v::l,x,h=>by
  rw[List.foldl_cons]
  have:sumF (some x) v=some (x+v.n):=by unfold sumF;rw[if_neg (h v (by simp))];rfl
  rw[this,sumL_some l _ fun w hw=>h w (List.mem_cons_of_mem _ hw)]
  simp[Int.add_assoc]
theorem sumL_eq{l:List Val}(h:∀ v∈l,v.k≠0):sumL l=if l=[] then none else some (l.map (·.n)).sum:=by
 cases l with
 | nil=>rfl
 | cons v l=>
  unfold sumL
  rw[List.foldl_cons]
  have:sumF none v=some v.n:=by unfold sumF;rw[if_neg (h v (by simp))];simp
  rw[this,sumL_some l _ fun w hw=>h w (List.mem_cons_of_mem _ hw)]
  simp
theorem joinL_some:∀ (l:List Val) (x:Int),l.foldl (fun s v=>addO s (some (sumI v))) (some x)=some (x+(l.map sumI).sum)
 | [],x=>by simp
 | v::l,x=>by
  rw[List.foldl_cons]
  show l.foldl _ (some (x+sumI v))=_
  rw[joinL_some l]
  simp[Int.add_assoc]
theorem joinL_eq(l:List Val):joinL l=if l=[] then none else some (l.map sumI).sum:=by
 cases l with
 | nil=>rfl
 | cons v l=>
  unfold joinL
  rw[List.foldl_cons]
  show l.foldl _ (some (sumI v))=_
  rw[joinL_some l]
  simp
theorem sumI_sumV(x:Int):sumI (sumV x)=x:=by
 unfold sumI sumV
 simp only
 omega
def pvF(tag:Int)(l:List Val)(n:Nat):Val:=if tag=1 then intVal n else if tag=2 then intVal l.length else if tag=3 then stV (sumL l) else if tag=4 then leastF l else greatestF l
def evF(tag:Int)(l:List Val)(n:Nat):Val×Int:=if tag=3 then endF (sumL l) else (pvF tag l n,0)
theorem sum_perm{l m:List Int}(h:l.Perm m):l.sum=m.sum:=by
 induction h with
 | nil=>rfl
 | cons x _ ih=>simp[ih]
 | swap x y l=>simp;omega
 | trans _ _ h1 h2=>exact h1.trans h2
theorem pvF_perm{tag:Int}{l m:List Val}(n:Nat)(h:l.Perm m)(hk:∀ v∈l,v.k≠0):pvF tag l n=pvF tag m n∧sumL l=sumL m:=by
 have hk':∀ v∈m,v.k≠0:=fun v hv=>hk v (h.mem_iff.2 hv)
 have hnil:l=[]↔m=[]:=⟨fun e=>by subst e;exact List.nil_perm.1 h,fun e=>by subst e;exact List.perm_nil.1 h⟩
 have hs:sumL l=sumL m:=by
  rw[sumL_eq hk,sumL_eq hk',sum_perm (h.map (·.n))]
  by_cases e:l=[]
  ·rw[if_pos e,if_pos (hnil.1 e)]
  ·rw[if_neg e,if_neg fun e'=>e (hnil.2 e')]
 refine ⟨?_,hs⟩
 unfold pvF
 rw[h.length_eq,hs]
 have hl:leastF l=leastF m:=by
  by_cases e:m=[]
  ·rw[hnil.2 e,e]
  ·obtain ⟨h1,h2⟩:=leastF_spec e
   exact leastF_uniq (h.mem_iff.2 h1) fun x hx=>h2 x (h.mem_iff.1 hx)
 have hg:greatestF l=greatestF m:=by
  by_cases e:m=[]
  ·rw[hnil.2 e,e]
  ·obtain ⟨h1,h2⟩:=greatestF_spec e
   exact greatestF_uniq (h.mem_iff.2 h1) fun x hx=>h2 x (h.mem_iff.1 hx)
 rw[hl,hg]
theorem ownF_eq(j:Nat):∀ rs:List (List Val),ownF j rs=(rs.map fun r=>r.getD j zeroV).filter fun v=>v.k != 0
 | []=>rfl
 | r::rs=>by
  have ih:=ownF_eq j rs
  unfold ownF at *
  rw[List.flatMap_cons,ih,List.map_cons,List.filter_cons]
  by_cases h:(r.getD j zeroV).k=0
  ·rw[if_pos h,if_neg (by rw[h];decide)];rfl
  ·rw[if_neg h,if_pos (by rw[bne_iff_ne];exact h)];rfl
abbrev Piece:=List Val×Nat
theorem fin_least{ps:List Piece}(hk:∀ p∈ps,∀ v∈p.1,v.k≠0):leastF ((ps.map fun p=>leastF p.1).filter fun v=>v.k != 0)=leastF (ps.flatMap (·.1)):=by
 by_cases h0:ps.flatMap (·.1)=[]
 ·have:((ps.map fun p=>leastF p.1).filter fun v=>v.k != 0)=[]:=List.filter_eq_nil_iff.2 fun v hv=>by
   obtain ⟨p,hp,rfl⟩:=List.mem_map.1 hv
   have:p.1=[]:=List.flatMap_eq_nil_iff.1 h0 p hp
   rw[this]
   simp[leastF,zeroV]
  rw[this,h0]
 ·obtain ⟨h1,h2⟩:=leastF_spec h0
  obtain ⟨p,hp,hm⟩:=List.mem_flatMap.1 h1
  have hpm:leastF p.1=leastF (ps.flatMap (·.1)):=leastF_uniq hm fun x hx=>h2 x (List.mem_flatMap.2 ⟨p,hp,hx⟩)
  refine leastF_uniq ?_ ?_
  ·refine List.mem_filter.2 ⟨List.mem_map.2 ⟨p,hp,hpm⟩,?_⟩
   have:=hk p hp _ hm
   simp[this]
  ·intro x hx
   obtain ⟨hx1,hx2⟩:=List.mem_filter.1 hx
   obtain ⟨q,hq,rfl⟩:=List.mem_map.1 hx1
   by_cases hq0:q.1=[]
   ·rw[hq0]at hx2;simp[leastF,zeroV]at hx2
   ·exact h2 _ (List.mem_flatMap.2 ⟨q,hq,(leastF_spec hq0).1⟩)
theorem fin_greatest{ps:List Piece}(hk:∀ p∈ps,∀ v∈p.1,v.k≠0):greatestF ((ps.map fun p=>greatestF p.1).filter fun v=>v.k != 0)=greatestF (ps.flatMap (·.1)):=by
 by_cases h0:ps.flatMap (·.1)=[]
 ·have:((ps.map fun p=>greatestF p.1).filter fun v=>v.k != 0)=[]:=List.filter_eq_nil_iff.2 fun v hv=>by
   obtain ⟨p,hp,rfl⟩:=List.mem_map.1 hv
   have:p.1=[]:=List.flatMap_eq_nil_iff.1 h0 p hp
   rw[this]
   simp[greatestF,zeroV]
  rw[this,h0]
 ·obtain ⟨h1,h2⟩:=greatestF_spec h0
  obtain ⟨p,hp,hm⟩:=List.mem_flatMap.1 h1
  have hpm:greatestF p.1=greatestF (ps.flatMap (·.1)):=greatestF_uniq hm fun x hx=>h2 x (List.mem_flatMap.2 ⟨p,hp,hx⟩)
  refine greatestF_uniq ?_ ?_
  ·refine List.mem_filter.2 ⟨List.mem_map.2 ⟨p,hp,hpm⟩,?_⟩
   have:=hk p hp _ hm
   simp[this]
  ·intro x hx
   obtain ⟨hx1,hx2⟩:=List.mem_filter.1 hx
   obtain ⟨q,hq,rfl⟩:=List.mem_map.1 hx1
   by_cases hq0:q.1=[]
   ·rw[hq0]at hx2;simp[greatestF,zeroV]at hx2
   ·exact h2 _ (List.mem_flatMap.2 ⟨q,hq,(greatestF_spec hq0).1⟩)
theorem fin_sum:∀ {ps:List Piece},(∀ p∈ps,∀ v∈p.1,v.k≠0)→((((ps.map fun p=>stV (sumL p.1)).filter fun v=>v.k != 0).map sumI).sum=((ps.flatMap (·.1)).map (·.n)).sum)∧(((ps.map fun p=>stV (sumL p.1)).filter fun v=>v.k != 0)=[]↔ps.flatMap (·.1)=[])
 | [],_=>by simp
 | p::ps,hk=>by
  obtain ⟨h1,h2⟩:=fin_sum (ps:=ps) fun q hq=>hk q (List.mem_cons_of_mem _ hq)
  have hkp:=hk p (by simp)
  rw[List.map_cons,List.filter_cons,List.flatMap_cons,sumL_eq hkp]
  by_cases h:p.1=[]
  ·rw[if_pos h,h,if_neg (by simp[stV,zeroV])]
   exact ⟨by simpa using h1,by simpa using h2⟩
  ·rw[if_neg h,if_pos (by simp[stV,sumV])]
   refine ⟨?_,by simp[h]⟩
   rw[show stV (some (p.1.map (·.n)).sum)=sumV (p.1.map (·.n)).sum from rfl,List.map_cons,List.sum_cons,sumI_sumV,h1,List.map_append,List.sum_append]
theorem fin_count(f:Piece→Nat):∀ ps:List Piece,((ps.map fun p=>intVal (f p)).filter fun v=>v.k != 0)=ps.map fun p=>intVal (f p)
 | []=>rfl
 | p::ps=>by
  rw[List.map_cons,List.filter_cons,if_pos (by simp[intVal]),fin_count f ps]
theorem sumL_count(f:Piece→Nat)(ps:List Piece):sumL ((ps.map fun p=>intVal (f p))++[intVal 0])=some (((ps.map f).sum:Nat):Int):=by
 rw[sumL_eq (fun v hv=>by
  rcases List.mem_append.1 hv with hv|hv
  ·obtain ⟨p,_,rfl⟩:=List.mem_map.1 hv
   simp[intVal]
  ·rw[List.mem_singleton.1 hv];simp[intVal]),if_neg (by simp)]
 congr 1
 induction ps with
 | nil=>simp[intVal]
 | cons p ps ih=>
  simp only[List.map_cons,List.cons_append,List.sum_cons]
  rw[ih]
  simp[intVal]
theorem endF_small{n:Nat}(h:n≤8000):endF (some (n:Int))=(intVal n,0):=by
 have h1:-9223372036854775808≤(n:Int)∧(n:Int) < 9223372036854775808:=by omega
 simp only[endF]
 rw[if_pos h1]
theorem flat_len:∀ ps:List Piece,(ps.map fun p=>p.1.length).sum=(ps.flatMap (·.1)).length
 | []=>rfl
 | p::ps=>by rw[List.map_cons,List.sum_cons,List.flatMap_cons,List.length_append,flat_len ps]
theorem fin_val{tag:Int}{ps:List Piece}(ht:1≤tag∧tag≤5)(hk:∀ p∈ps,∀ v∈p.1,v.k≠0)(hn:(ps.map (·.2)).sum≤8000)(hl:(ps.flatMap (·.1)).length≤8000) :
  finF tag ((ps.map fun p=>pvF tag p.1 p.2).filter fun v=>v.k != 0)=evF tag (ps.flatMap (·.1)) (ps.map (·.2)).sum:=by
 have ht':tag=1∨tag=2∨tag=3∨tag=4∨tag=5:=by omega
 rcases ht' with rfl|rfl|rfl|rfl|rfl
 ·have e:(ps.map fun p=>pvF 1 p.1 p.2)=ps.map fun p=>intVal (p.2:Nat):=rfl
  rw[e,fin_count fun p=>p.2]
  show endF (sumL (_++[intVal 0]))=(intVal _,0)
  rw[sumL_count fun p=>p.2,endF_small hn]
 ·have e:(ps.map fun p=>pvF 2 p.1 p.2)=ps.map fun p=>intVal (p.1.length:Nat):=rfl
  rw[e,fin_count fun p=>p.1.length]
  show endF (sumL (_++[intVal 0]))=(intVal _,0)
  rw[sumL_count fun p=>p.1.length,flat_len,endF_small hl]
 ·have e:(ps.map fun p=>pvF 3 p.1 p.2)=ps.map fun p=>stV (sumL p.1):=rfl
  rw[e]
  show endF (joinL _)=endF (sumL _)
  obtain ⟨h1,h2⟩:=fin_sum hk
  rw[joinL_eq,sumL_eq (fun v hv=>by
   obtain ⟨p,hp,hv⟩:=List.mem_flatMap.1 hv
   exact hk p hp v hv),h1]
  by_cases h:ps.flatMap (·.1)=[]
  ·rw[if_pos (h2.2 h),if_pos h]
  ·rw[if_neg (fun h'=>h (h2.1 h')),if_neg h]
 ·have e:(ps.map fun p=>pvF 4 p.1 p.2)=ps.map fun p=>leastF p.1:=rfl
  rw[e]
  show (leastF _,0)=(leastF _,0)
  rw[fin_least hk]
 ·have e:(ps.map fun p=>pvF 5 p.1 p.2)=ps.map fun p=>greatestF p.1:=rfl
  rw[e]
  show (greatestF _,0)=(greatestF _,0)
  rw[fin_greatest hk]
end Go.AM
namespace Go.AM
def rowOkA(tag:Int)(e:List EN)(r:List Val):Prop:=tag=1∨(evalF e r).2=0∧(tag=3→badS (evalF e r).1=0)
noncomputable def valsE(e:List EN)(rs:List (List Val)):List Val:=rs.flatMap (valE e)
structure AgOk (tag:Int) (e:List EN):Prop where
 tag1:1≤tag
 tag5:tag≤5
 none1:tag=1→e=[]
 ok:tag≠1→okE e=true
theorem valsE_k{e:List EN}{rs:List (List Val)}:∀ v∈valsE e rs,v.k≠0:=fun v hv=>by
 obtain ⟨r,_,hv⟩:=List.mem_flatMap.1 hv
 unfold valE at hv
 split at hv
 ·rename_i h
  rw[List.mem_singleton.1 hv];exact h.2
 ·cases hv
theorem valsE_len(e:List EN):∀ rs:List (List Val),(valsE e rs).length≤rs.length
 | []=>Nat.le_refl _
 | r::rs=>by
  have ih:=valsE_len e rs
  unfold valsE at *
  rw[List.flatMap_cons,List.length_append,List.length_cons]
  have:(valE e r).length≤1:=by unfold valE;split<;>simp
  omega
theorem partG_fold(e:List EN):∀ (m:List (List Val)) (k:Nat) (s:Option Int),
  ((∀ r∈m,rowOkA 3 e r)∧foldL (partG e) m k s=.inl ((valsE e m).foldl sumF s))∨((∃ r∈m,¬rowOkA 3 e r)∧∃ p,foldL (partG e) m k s=.inr p∧p.2≠0)
 | [],k,s=>.inl ⟨by simp,rfl⟩
 | r::m,k,s=>by
  by_cases h1:(evalF e r).2=0
  ·by_cases h2:badS (evalF e r).1=0
   ·have hg:partG e k r s=.inl (sumF s (evalF e r).1):=by unfold partG;rw[if_neg (by simp[h1]),if_neg (by simp[h2])]
    have hro:rowOkA 3 e r:=.inr ⟨h1,fun _=>h2⟩
    have hv:(valE e r).foldl sumF s=sumF s (evalF e r).1:=by
     unfold valE
     by_cases h3:(evalF e r).1.k=0
     ·rw[if_neg (fun h=>h.2 h3)]
      unfold sumF;rw[if_pos h3];rfl
     ·rw[if_pos ⟨h1,h3⟩];rfl
    simp only[foldL,hg]
    rcases partG_fold e m (k+1) (sumF s (evalF e r).1) with ⟨h,h'⟩|⟨⟨q,hq,hq'⟩,h'⟩
    ·refine .inl ⟨fun q hq=>?_,?_⟩
     ·rcases List.mem_cons.1 hq with rfl|hq
      ·exact hro
      ·exact h q hq
     ·rw[h']
      unfold valsE
      rw[List.flatMap_cons,List.foldl_append,hv]
    ·exact .inr ⟨⟨q,List.mem_cons_of_mem _ hq,hq'⟩,h'⟩
   ·have hg:partG e k r s=.inr (zeroV,badS (evalF e r).1):=by unfold partG;rw[if_neg (by simp[h1]),if_pos h2]
    refine .inr ⟨⟨r,by simp,fun h=>h.elim (fun h=>by cases h) fun h=>h2 (h.2 rfl)⟩,(zeroV,badS (evalF e r).1),by simp only[foldL,hg],h2⟩
  ·have hg:partG e k r s=.inr (stV s,(evalF e r).2):=by unfold partG;rw[if_pos h1]
   refine .inr ⟨⟨r,by simp,fun h=>h.elim (fun h=>by cases h) fun h=>h1 h.1⟩,(stV s,(evalF e r).2),by simp only[foldL,hg],h1⟩
theorem argsF_ok{tag:Int}{e:List EN}{rs:List (List Val)}(h1:tag≠1)(h:∀ r∈rs,rowOkA tag e r):argsF e rs=(valsE e rs,0):=by
 have hz:∀ r∈rs,(evalF e r).2=0:=fun r hr=>(h r hr).elim (fun h=>absurd h h1) (·.1)
 unfold argsF valsE
 have ho:rs.any (oddE e)=false:=List.any_eq_false.2 fun r hr=>by simp[oddE,hz r hr]
 have hf:rs.any (faultE e)=false:=List.any_eq_false.2 fun r hr=>by simp[faultE,hz r hr]
 rw[ho,hf]
 simp
theorem argsF_bad{tag:Int}{e:List EN}{rs:List (List Val)}(h3:tag≠3)(h:∃ r∈rs,¬rowOkA tag e r):(argsF e rs).2=2∨(argsF e rs).2=140:=by
 obtain ⟨r,hr,hn⟩:=h
 have h0:(evalF e r).2≠0:=fun h0=>hn (.inr ⟨h0,fun h=>absurd h h3⟩)
 unfold argsF
 cases ho:rs.any (oddE e) with
 | true=>left;simp
 | false=>
  right
  have hf:rs.any (faultE e)=true:=by
   refine List.any_eq_true.2 ⟨r,hr,?_⟩
   have:=List.any_eq_false.1 ho r hr
   unfold oddE at this
   unfold faultE
   simp[h0]at this
   simp[this]
  rw[hf]
  simp
theorem aggOk_of{tag:Int}{e:List EN}{rs:List (List Val)}(ha:AgOk tag e)(hr:∀ r∈rs,okR r=true):aggOk tag e rs=true:=by
 unfold aggOk
 have h1:rs.all okR=true:=List.all_eq_true.2 hr
 rw[h1]
 have:=ha.tag1
 have:=ha.tag5
 by_cases h:tag=1
 ·have:=ha.none1 h
  subst this
  simp[h]
 ·simp[h,ha.ok h];omega
theorem AggF_val{tag:Int}{e:List EN}{rs:List (List Val)}(ha:AgOk tag e)(hr:∀ r∈rs,okR r=true)(h:∀ r∈rs,rowOkA tag e r):AggF tag e rs=evF tag (valsE e rs) rs.length:=by
 unfold AggF
 rw[if_pos (aggOk_of ha hr)]
 unfold aggF evF pvF
 by_cases t1:tag=1
 ·subst t1;simp
 ·rw[if_neg t1,argsF_ok t1 h]
  simp only
  by_cases t3:tag=3
  ·subst t3
   have hk:(valsE e rs).any (fun v=>!(v.k == 2))=false:=List.any_eq_false.2 fun v hv=>by
    obtain ⟨r,hr',hv⟩:=List.mem_flatMap.1 hv
    unfold valE at hv
    split at hv
    ·rename_i hq
     rw[List.mem_singleton.1 hv]
     have:=(h r hr').elim (fun h=>by cases h) fun h=>h.2 rfl
     unfold badS at this
     split at this
     ·cases this
     ·split at this
      ·rename_i hk
       have h2:(evalF e r).1.k=2:=by omega
       simp[h2]
      ·cases this
    ·cases hv
   simp[hk]
  ·rw[if_neg (by decide),if_neg (fun h=>t3 h.1),if_neg (by simp),if_neg t3]
   by_cases t2:tag=2
   ·subst t2;simp
   ·rw[if_neg t2,if_neg t3,if_neg t1,if_neg t2]
    simp only[t3,if_false]
    split<;>rfl
theorem AggF_bad{tag:Int}{e:List EN}{rs:List (List Val)}(ha:AgOk tag e)(h3:tag≠3)(hr:∀ r∈rs,okR r=true)(h:∃ r∈rs,¬rowOkA tag e r):(AggF tag e rs).2≠0:=by
 unfold AggF
 rw[if_pos (aggOk_of ha hr)]
 have t1:tag≠1:=fun t1=>by
  obtain ⟨r,_,hn⟩:=h
  exact hn (.inl t1)
 unfold aggF
 rw[if_neg t1]
 rcases argsF_bad h3 h with hb|hb
 ·rw[if_pos hb];decide
 ·rw[if_neg (by rw[hb];decide),if_neg (fun h=>h3 h.1),if_pos (by rw[hb];decide)]
  rw[hb];decide
theorem partF_ok{tag:Int}{e:List EN}{rs:List (List Val)}(ha:AgOk tag e)(hr:∀ r∈rs,okR r=true)(h:∀ r∈rs,rowOkA tag e r):partF tag e rs=(pvF tag (valsE e rs) rs.length,0):=by
 unfold partF
 by_cases t3:tag=3
 ·subst t3
  rw[if_pos rfl]
  unfold partS
  rcases partG_fold e rs 0 none with ⟨_,h'⟩|⟨⟨r,hr',hn⟩,_⟩
  ·rw[h'];rfl
  ·exact absurd (h r hr') hn
 ·rw[if_neg t3,AggF_val ha hr h]
  unfold evF
  rw[if_neg t3]
theorem partF_bad{tag:Int}{e:List EN}{rs:List (List Val)}(ha:AgOk tag e)(hr:∀ r∈rs,okR r=true)(h:∃ r∈rs,¬rowOkA tag e r):(partF tag e rs).2≠0:=by
 unfold partF
 by_cases t3:tag=3
 ·subst t3
  rw[if_pos rfl]
  unfold partS
  rcases partG_fold e rs 0 none with ⟨hall,_⟩|⟨_,p,h',hp⟩
  ·obtain ⟨r,hr',hn⟩:=h
   exact absurd (hall r hr') hn
  ·rw[h'];exact hp
 ·rw[if_neg t3]
  exact AggF_bad ha t3 hr h
theorem valsE_perm{e:List EN}{rs qs:List (List Val)}(h:rs.Perm qs):(valsE e rs).Perm (valsE e qs):=h.flatMap_right _
theorem agOk_of{K:List Int}{n:LNX}(h:PartOk K n):∀ a∈n.aggs,AgOk a.tag a.arg:=fun a ha=>by
 have:=h.ag a ha
 unfold aggK at this
 by_cases t1:a.tag=1
 ·rw[if_pos t1]at this
  simp only[beq_iff_eq]at this
  exact ⟨by omega,by omega,fun _=>List.eq_nil_of_length_eq_zero this,fun h=>absurd t1 h⟩
 ·rw[if_neg t1]at this
  simp only[Bool.and_eq_true,decide_eq_true_eq,beq_iff_eq]at this
  refine ⟨by omega,by omega,fun h=>absurd h t1,fun _=>?_⟩
  have hk:=this.1.1.1
  unfold kindF at hk
  cases ho:okE a.arg with
  | true=>rfl
  | false=>rw[ho]at hk;simp at hk
end Go.AM
namespace Go.AM
abbrev keyOf(cols:List Int)(r:List Val):List Val:=takeR r cols
theorem cmpG_le{cols:List Int}{r q:List Val}(h:cmpG cols r q≤0):cmpR (keyOf cols r) (keyOf cols q)≤0:=by
 unfold cmpG lex at h
 split at h
 ·exact h
 ·rename_i h0
  have:cmpR (takeR r cols) (takeR q cols)=0:=by
   rcases Int.decEq (cmpR (takeR r cols) (takeR q cols)) 0 with h1|h1
   ·exact absurd h1 h0
   ·exact h1
  show cmpR (takeR r cols) (takeR q cols)≤0
  omega
theorem alikeG_iff{cols:List Int}{r q:List Val}:alikeG cols r q=true↔keyOf cols r=keyOf cols q:=by simp[alikeG]
theorem cmpR_ne{a b:List Val}(h:cmpR a b≤0)(hn:a≠b):cmpR a b < 0:=by
 have:cmpR a b≠0:=fun h0=>hn (cmpR_zero h0)
 omega
theorem dropWhile_lt{cols:List Int}{a:List Val}:∀ {t:List (List Val)},(∀ x∈t,cmpG cols a x≤0)→t.Pairwise (fun x y=>cmpG cols x y≤0)→∀ z∈t.dropWhile (alikeG cols a),cmpR (keyOf cols a) (keyOf cols z) < 0
 | [],_,_,z,hz=>by cases hz
 | b::t,h1,h2,z,hz=>by
  cases hb:alikeG cols a b with
  | true=>
   rw[List.dropWhile_cons,if_pos hb]at hz
   exact dropWhile_lt (fun x hx=>h1 x (List.mem_cons_of_mem _ hx)) (List.pairwise_cons.1 h2).2 z hz
  | false=>
   rw[List.dropWhile_cons,if_neg (by simp[hb])]at hz
   have hne:keyOf cols a≠keyOf cols b:=fun h=>by rw[alikeG_iff.2 h]at hb;cases hb
   have hab:=cmpR_ne (cmpG_le (h1 b (by simp))) hne
   rcases List.mem_cons.1 hz with rfl|hz
   ·exact hab
   ·exact cmpR_ok.lt_le hab (cmpG_le ((List.pairwise_cons.1 h2).1 z hz))
theorem takeWhile_key{cols:List Int}{a:List Val}:∀ {t:List (List Val)},∀ z∈t.takeWhile (alikeG cols a),keyOf cols z=keyOf cols a
 | [],z,hz=>by cases hz
 | b::t,z,hz=>by
  cases hb:alikeG cols a b with
  | true=>
   rw[List.takeWhile_cons,if_pos hb]at hz
   rcases List.mem_cons.1 hz with rfl|hz
   ·exact (alikeG_iff.1 hb).symm
   ·exact takeWhile_key z hz
  | false=>
   rw[List.takeWhile_cons,if_neg (by simp[hb])]at hz
   cases hz
structure RunsL (cols:List Int) (S:List (List Val)) (G:List (List Val×List (List Val))):Prop where
 up:(G.map (·.1)).Pairwise fun a b=>cmpR a b < 0
 rows:∀ g∈G,g.2=S.filter (fun r=>decide (keyOf cols r=g.1))∧g.2≠[]
 all:∀ r∈S,∃ g∈G,g.1=keyOf cols r
theorem runs_spec(cols:List Int):∀ (n:Nat) (S:List (List Val)),S.length≤n→S.Pairwise (fun x y=>cmpG cols x y≤0)→RunsL cols S (runsG cols n S)
 | 0,S,h,_=>by
  have:S=[]:=List.eq_nil_of_length_eq_zero (by omega)
  subst this
  exact ⟨by simp[runsG],by simp[runsG],by simp⟩
 | n+1,[],_,_=>⟨by simp[runsG],by simp[runsG],by simp⟩
 | n+1,a::t,hl,hp=>by
  obtain ⟨hp1,hp2⟩:=List.pairwise_cons.1 hp
  have hsuf:=List.dropWhile_suffix (l:=t) (alikeG cols a)
  have ih:=runs_spec cols n (t.dropWhile (alikeG cols a)) (by have:=hsuf.length_le;simp at hl;omega) (hp2.sublist hsuf.sublist)
  have hlt:=dropWhile_lt (cols:=cols) hp1 hp2
  have htw:=takeWhile_key (cols:=cols) (a:=a) (t:=t)
  have hsplit:t=t.takeWhile (alikeG cols a)++t.dropWhile (alikeG cols a):=(List.takeWhile_append_dropWhile).symm
  have hkey:∀ g∈runsG cols n (t.dropWhile (alikeG cols a)),cmpR (keyOf cols a) g.1 < 0:=fun g hg=>by
   obtain ⟨_,hne⟩:=ih.rows g hg
   have hr:=(ih.rows g hg).1
   obtain ⟨x,hx⟩:=List.exists_mem_of_ne_nil _ hne
   rw[hr]at hx
   obtain ⟨hx1,hx2⟩:=List.mem_filter.1 hx
   have:keyOf cols x=g.1:=by simpa using hx2
   rw[← this]
   exact hlt x hx1
  simp only[runsG]
  generalize hT:t.takeWhile (alikeG cols a)=T at *
  generalize hD:t.dropWhile (alikeG cols a)=D at *
  generalize runsG cols n D=G at *
  subst hsplit
  refine ⟨?_,?_,?_⟩
  ·rw[List.map_cons,List.pairwise_cons]
   refine ⟨fun k hk=>?_,ih.up⟩
   obtain ⟨g,hg,rfl⟩:=List.mem_map.1 hk
   exact hkey g hg
  ·intro g hg
   rcases List.mem_cons.1 hg with rfl|hg
   ·refine ⟨?_,by simp⟩
    have h1:T.filter (fun r=>decide (keyOf cols r=takeR a cols))=T:=List.filter_eq_self.2 fun r hr=>by simpa using htw r hr
    have h2:D.filter (fun r=>decide (keyOf cols r=takeR a cols))=[]:=List.filter_eq_nil_iff.2 fun r hr=>by
     have:=hlt r hr
     intro h
     have h':keyOf cols r=takeR a cols:=by simpa using h
     rw[h',cmpR_ok.self]at this
     omega
    simp[List.filter_cons,List.filter_append,h1,h2]
   ·obtain ⟨h1,h2⟩:=ih.rows g hg
    refine ⟨?_,h2⟩
    have hk:=hkey g hg
    have hne:∀ r,keyOf cols r=keyOf cols a→decide (keyOf cols r=g.1)=false:=fun r hr=>by
     rw[decide_eq_false_iff_not]
     intro h
     rw[← h,hr,cmpR_ok.self]at hk
     omega
    have h3:T.filter (fun r=>decide (keyOf cols r=g.1))=[]:=List.filter_eq_nil_iff.2 fun r hr=>by rw[hne r (htw r hr)];simp
    rw[List.filter_cons,hne a rfl,if_neg (by simp),List.filter_append,h3,List.nil_append]
    exact h1
  ·intro r hr
   rcases List.mem_cons.1 hr with rfl|hr
   ·exact ⟨_,List.mem_cons_self ..,rfl⟩
   ·rcases List.mem_append.1 hr with hr|hr
    ·exact ⟨_,List.mem_cons_self ..,(htw r hr).symm⟩
    ·obtain ⟨g,hg,h⟩:=ih.all r hr
     exact ⟨g,List.mem_cons_of_mem _ hg,h⟩
structure Grps (cols:List Int) (rs:List (List Val)) (G:List (List Val×List (List Val))):Prop where
 up:(G.map (·.1)).Pairwise fun a b=>cmpR a b < 0
 rows:∀ g∈G,g.2.Perm (rs.filter fun r=>decide (keyOf cols r=g.1))∧g.2≠[]
 all:∀ r∈rs,∃ g∈G,g.1=keyOf cols r
theorem groups_spec(cols:List Int)(rs:List (List Val)):Grps cols rs (groupsF cols rs):=by
 have hp:=sortC_perm (c:=cmpG cols) rs
 have h:=runs_spec cols rs.length (sortC (cmpG cols) rs) (by rw[sortC_length];exact Nat.le_refl _) (sortC_sorted (cmpG_ok cols) rs)
 refine ⟨h.up,fun g hg=>⟨?_,(h.rows g hg).2⟩,fun r hr=>h.all r (hp.mem_iff.2 hr)⟩
 have:=(h.rows g hg).1
 have h2:=hp.filter (fun r=>decide (keyOf cols r=g.1))
 rw[← this]at h2
 exact h2
theorem up_unique:∀ {l m:List (List Val)},l.Pairwise (fun a b=>cmpR a b < 0)→m.Pairwise (fun a b=>cmpR a b < 0)→(∀ x,x∈l↔x∈m)→l=m
 | [],[],_,_,_=>rfl
 | [],b::m,_,_,h=>by have:=(h b).2 (by simp);cases this
 | a::l,[],_,_,h=>by have:=(h a).1 (by simp);cases this
 | a::l,b::m,h1,h2,h=>by
  obtain ⟨a1,a2⟩:=List.pairwise_cons.1 h1
  obtain ⟨b1,b2⟩:=List.pairwise_cons.1 h2
  have hself:∀ x,¬cmpR x x < 0:=fun x hx=>by rw[cmpR_ok.self]at hx;omega
  have hab:a=b:=by
   rcases List.mem_cons.1 ((h a).1 (by simp)) with e|e
   ·exact e
   ·rcases List.mem_cons.1 ((h b).2 (by simp)) with e'|e'
    ·exact e'.symm
    ·have x1:=b1 a e
     have x2:=a1 b e'
     exact absurd (cmpR_ok.lt_le x1 (Int.le_of_lt x2)) (hself b)
  subst hab
  congr 1
  refine up_unique a2 b2 fun x=>⟨fun hx=>?_,fun hx=>?_⟩
  ·rcases List.mem_cons.1 ((h x).1 (List.mem_cons_of_mem _ hx)) with e|e
   ·subst e;exact absurd (a1 x hx) (hself x)
   ·exact e
  ·rcases List.mem_cons.1 ((h x).2 (List.mem_cons_of_mem _ hx)) with e|e
   ·subst e;exact absurd (b1 x hx) (hself x)
   ·exact e
end Go.AM
