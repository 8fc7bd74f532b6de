/- Part of the proof. -/
import Derived.Test.YtchifcbclnonbaaGreatDoorAm20
set_option linter.unusedVariables false
set_option linter.unusedSimpArgs false
set_option linter.unusedSectionVars false
namespace Go.AM
open P
set_option maxHeartbeats 16000000
set_option maxRecDepth 8000
attribute [local simp] aF br
abbrev oF(c:List cM)(s:jJ)(v:ap)(J:aw):aw:=.arr 1 0 [eZ c]::.arr 9 0 [s.a]::.arr 1 0 [.agg [.ai]]::.arr 1 0 [.agg [v]]::J
theorem wA(o:Option (List bB))(b:Nat)(τ:aw)(m:Nat):fz false true b τ (m+3) (kL o)=kL o:=by cases o<;>simp[kL]
theorem lh(o:Option (List bB)):aC (kL o)=1:=by cases o<;>rfl
abbrev JOk(J:aw):Prop:=∀b τ,J.map (aW b τ)=J
theorem kW(c:List cM)(s:jJ)(o:Option (List bB)){J J':aw}(hJ:∀b τ,J.map (aW b τ)=J'):AO (oF c s (kL o) J) (oF c s (kL o) J'):=fun τ b _=>by
 have h1:=wA o;have hs:∀b τ m,fz false true b τ (m+3) s.a=s.a:=fun b τ m=>Fx.fx false true b τ m s;have h3:aC s.a=9:=rfl;simp[oF,aW,bG,dp,h1,hJ,hs]
def QD(q:St)(o:Option (List bB)):Prop:=q.st[2]?=some (.arr 1 0 [.agg [kL o]])∧q.env[4]?=some (.ptr 2 0 0 0)∧q.env[5]?=some (.bool o.isSome)
section
variable (c:List cM) (s:jJ)
abbrev vy(ok:Bool)(x5 x6 x9 x10 x11 x12 x13 x14 x15 x16 x17 x18 x19 x20 x21 x22 x23 x24 x25 x26 x27 x28 x29:ap):List ap:=[eZ c,s.a,.ptr 0 0 0 0,.ptr 1 0 0 0,.ptr 2 0 0 0,x5,x6,.ptr 3 0 0 0,.bool ok,x9,x10,x11,x12,x13,x14,x15,x16,x17,x18,x19,x20,x21,x22,x23,x24,x25,x26,x27,x28,x29]
theorem Qw(o:Option (List bB))(hO:fB o)(J:aw)(hJ:JOk J)(x5 x6 x9 x10 x11 x12 x13 x14 x15 x16 x17 x18 x19 x20 x21 x22 x23 x24 x25 x26 x27 x28 x29:ap):∃q,run code oD ⟨vy c s o.isSome x5 x6 x9 x10 x11 x12 x13 x14 x15 x16 x17 x18 x19 x20 x21 x22 x23 x24 x25 x26 x27 x28 x29,oF c s (kL o) J⟩=some (.ret,q)∧QD q (o):=by
 have h3:=lh o;refine⟨⟨vy c s o.isSome (.bool o.isSome) x6 x9 x10 x11 x12 x13 x14 x15 x16 x17 x18 x19 x20 x21 x22 x23 x24 x25 x26 x27 x28 x29,_⟩,by simp[oD,sK,sF,vy,oF];rfl,rfl,rfl,rfl⟩
theorem ZP(o:Option (List bB))(hO:fB o)(J:aw)(hJ:JOk J)(x5 x6 x9 x10 x11 x12 x13 x14 x15 x16 x17 x18 x19 x20 x21 x22 x23 x24 x25 x26 x27 x28 x29:ap):∃q,run code om ⟨vy c s o.isSome x5 x6 x9 x10 x11 x12 x13 x14 x15 x16 x17 x18 x19 x20 x21 x22 x23 x24 x25 x26 x27 x28 x29,oF c s (kL o) J⟩=some (.ret,q)∧QD q (if s.distinct then cT pK o else o):=by
 have hsa:s.a=.agg s.c:=rfl;have hsc:s.c=[.aa false (s.tables.map (.int .i64)),.aa false (s.joins.map JX.a),.aa false (s.whr.map EN.a),.aa false (s.having.map EN.a),.bool s.grouped,.bool s.distinct,.aa false (s.keys.map (.int .i64)),.aa false (s.ah.map nE),.aa false (s.items.map nv)]:=rfl;have h3:=lh o;rw[om,zW];cases hd:s.distinct with
 |false=>
  simp only[aH,bQ];have hp:run code je ⟨vy c s o.isSome x5 x6 x9 x10 x11 x12 x13 x14 x15 x16 x17 x18 x19 x20 x21 x22 x23 x24 x25 x26 x27 x28 x29,oF c s (kL o) J⟩=some (.nrm,⟨vy c s o.isSome x5 x6 x9 x10 x11 x12 x13 x14 x15 x16 x17 x18 x19 x20 x21 x22 x23 x24 x25 x26 x27 x28 (.bool false),oF c s (kL o) J⟩):=by
   simp[je,vy,oF,hsa,hsc,hd]
  rw[hp,fD];exact Qw c s o hO J hJ _ _ _ _ _ _ _ _ _ _ _ _ _ _ _ _ _ _ _ _ _ _ _
 |true=>
  simp only[bU];have hm:=yV acj _ _ (kW c s o hJ) (kW c s o hJ) o hO;have hO':=fS uh.1 uh.2 hO;have h4:=lh (cT pK o);have hp:run code je ⟨vy c s o.isSome x5 x6 x9 x10 x11 x12 x13 x14 x15 x16 x17 x18 x19 x20 x21 x22 x23 x24 x25 x26 x27 x28 x29,oF c s (kL o) J⟩=some (.nrm,⟨vy c s (cT pK o).isSome x5 x6 x9 x10 x11 x12 x13 x14 x15 x16 x17 x18 x19 x20 x21 x22 x23 x24 x25 x26 x27 x28 (.bool true),oF c s (kL (cT pK o)) J⟩):=by
   simp only[oF,tf,show pK.op=6 from rfl,show pK.tab=0 from rfl,show pK.left=false from rfl,show pK.limit=0 from rfl,hsa,hsc,hd]at hm;simp[je,vy,oF,hsa,hsc,hd,hm]
  rw[hp,fD];exact Qw c s _ hO' J hJ _ _ _ _ _ _ _ _ _ _ _ _ _ _ _ _ _ _ _ _ _ _ _
theorem Uh(hs:xZ s)(o:Option (List bB))(hO:fB o)(J:aw)(hJ:JOk J)(x5 x6 x9 x10 x11 x12 x13 x14 x15 x16 x17 x18 x19 x20 x21 x22 x23 x24 x25 x26 x27 x28 x29:ap):∃q,run code oZ ⟨vy c s o.isSome x5 x6 x9 x10 x11 x12 x13 x14 x15 x16 x17 x18 x19 x20 x21 x22 x23 x24 x25 x26 x27 x28 x29,oF c s (kL o) J⟩=some (.ret,q)∧QD q (qD s o):=by
 have hsa:s.a=.agg s.c:=rfl;have hsc:s.c=[.aa false (s.tables.map (.int .i64)),.aa false (s.joins.map JX.a),.aa false (s.whr.map EN.a),.aa false (s.having.map EN.a),.bool s.grouped,.bool s.distinct,.aa false (s.keys.map (.int .i64)),.aa false (s.ah.map nE),.aa false (s.items.map nv)]:=rfl;have h3:=lh o;rw[oZ,zW];have hm:=yV (XW hs.items hs.exprs hs.exb) _ _ (kW c s o hJ) (kW c s o hJ) o hO;have hp:=Ag hs.items hs.exprs hs.exb;have hO':=fS hp.1 hp.2 hO;have h4:=lh (cT (jr s.items) o);have hp:run code oY ⟨vy c s o.isSome x5 x6 x9 x10 x11 x12 x13 x14 x15 x16 x17 x18 x19 x20 x21 x22 x23 x24 x25 x26 x27 x28 x29,oF c s (kL o) J⟩=some (.nrm,⟨vy c s (cT (jr s.items) o).isSome x5 x6 x9 x10 x11 x12 x13 x14 x15 x16 x17 x18 x19 x20 x21 x22 x23 x24 x25 x26 x27 x28 x29,oF c s (kL (cT (jr s.items) o)) J⟩):=by
  simp only[oF,tf,show (jr s.items).op=5 from rfl,show (jr s.items).tab=0 from rfl,show (jr s.items).left=false from rfl,show (jr s.items).limit=0 from rfl,hsa,hsc]at hm;simp[oY,vy,oF,hsa,hsc,hm]
 rw[hp,fD];exact ZP c s _ hO' J hJ _ _ _ _ _ _ _ _ _ _ _ _ _ _ _ _ _ _ _ _ _ _ _
def Nv(s:jJ)(o:Option (List bB)):Option (List bB):=if s.having=[] then o else cT (ky s.having) o
theorem PQ(hs:xZ s)(o:Option (List bB))(hO:fB o)(J:aw)(hJ:JOk J)(x5 x6 x9 x10 x11 x12 x13 x14 x15 x16 x17 x18 x19 x20 x21 x22 x23 x24 x25 x26 x27 x28 x29:ap):∃q,run code pf ⟨vy c s o.isSome x5 x6 x9 x10 x11 x12 x13 x14 x15 x16 x17 x18 x19 x20 x21 x22 x23 x24 x25 x26 x27 x28 x29,oF c s (kL o) J⟩=some (.ret,q)∧QD q (qD s (Nv s o)):=by
 have hsa:s.a=.agg s.c:=rfl;have hsc:s.c=[.aa false (s.tables.map (.int .i64)),.aa false (s.joins.map JX.a),.aa false (s.whr.map EN.a),.aa false (s.having.map EN.a),.bool s.grouped,.bool s.distinct,.aa false (s.keys.map (.int .i64)),.aa false (s.ah.map nE),.aa false (s.items.map nv)]:=rfl;have h3:=lh o;rw[pf,zW];have hh:(s.having=[]∧decide (0<s.having.length)=false)∨(s.having≠[]∧decide (0<s.having.length)=true):=by
  cases s.having<;>simp
 rcases hh with⟨e1,e2⟩|⟨e1,e2⟩
 ·have hF:Nv s o=o:=by unfold Nv;rw[if_pos e1]
  rw[hF];have hp:run code jA ⟨vy c s o.isSome x5 x6 x9 x10 x11 x12 x13 x14 x15 x16 x17 x18 x19 x20 x21 x22 x23 x24 x25 x26 x27 x28 x29,oF c s (kL o) J⟩=some (.nrm,⟨vy c s o.isSome x5 x6 x9 x10 x11 x12 x13 x14 x15 x16 x17 x18 x19 x20 x21 x22 x23 x24 x25 x26 x27 (.bool false) x29,oF c s (kL o) J⟩):=by
   simp[jA,vy,oF,hsa,hsc,e2]
  rw[hp,fD];exact Uh c s hs o hO J hJ _ _ _ _ _ _ _ _ _ _ _ _ _ _ _ _ _ _ _ _ _ _ _
 have hF:Nv s o=cT (ky s.having) o:=by unfold Nv;rw[if_neg e1]
 rw[hF];have hm:=yV (TW hs.having) _ _ (kW c s o hJ) (kW c s o hJ) o hO;have hn:=va hs.having;have hO':=fS hn.1 hn.2 hO;have h4:=lh (cT (ky s.having) o);have hp:run code jA ⟨vy c s o.isSome x5 x6 x9 x10 x11 x12 x13 x14 x15 x16 x17 x18 x19 x20 x21 x22 x23 x24 x25 x26 x27 x28 x29,oF c s (kL o) J⟩=some (.nrm,⟨vy c s (cT (ky s.having) o).isSome x5 x6 x9 x10 x11 x12 x13 x14 x15 x16 x17 x18 x19 x20 x21 x22 x23 x24 x25 x26 x27 (.bool true) x29,oF c s (kL (cT (ky s.having) o)) J⟩):=by
  simp only[oF,tf,show (ky s.having).op=3 from rfl,show (ky s.having).tab=0 from rfl,show (ky s.having).left=false from rfl,show (ky s.having).limit=0 from rfl,hsa,hsc]at hm;simp[jA,vy,oF,hsa,hsc,e2,hm]
 rw[hp,fD];exact Uh c s hs _ hO' J hJ _ _ _ _ _ _ _ _ _ _ _ _ _ _ _ _ _ _ _ _ _ _ _
def GK(s:jJ):Prop:=s.grouped=true∨(s.keys.length+s.ah.length=0∧s.having=[])
theorem XO{s:jJ}(h:GK s)(o:Option (List bB)):nm s o=Nv s (if s.grouped then cT (eS s.keys (eX s)) o else o):=by
 unfold nm Nv;rcases h with h|⟨h1,h2⟩
 ·simp[h]
 cases s.grouped<;>simp[h1,h2]
theorem TF(hs:xZ s)(hg:GK s)(o:Option (List bB))(hO:fB o)(x5 x6 x9 x10 x11 x12 x13 x14 x15 x16 x17 x18 x19 x20 x21 x22 x23 x24 x25 x26 x27 x28 x29:ap):∃q,run code oS ⟨vy c s o.isSome x5 x6 x9 x10 x11 x12 x13 x14 x15 x16 x17 x18 x19 x20 x21 x22 x23 x24 x25 x26 x27 x28 x29,oF c s (kL o) []⟩=some (.ret,q)∧QD q (qD s (nm s o)):=by
 have hsa:s.a=.agg s.c:=rfl;have hsc:s.c=[.aa false (s.tables.map (.int .i64)),.aa false (s.joins.map JX.a),.aa false (s.whr.map EN.a),.aa false (s.having.map EN.a),.bool s.grouped,.bool s.distinct,.aa false (s.keys.map (.int .i64)),.aa false (s.ah.map nE),.aa false (s.items.map nv)]:=rfl;have h3:=lh o;rw[oS,zW,XO hg];cases hd:s.grouped with
 |false=>
  simp only[aH,bQ];have hp:run code gw ⟨vy c s o.isSome x5 x6 x9 x10 x11 x12 x13 x14 x15 x16 x17 x18 x19 x20 x21 x22 x23 x24 x25 x26 x27 x28 x29,oF c s (kL o) []⟩=some (.nrm,⟨vy c s o.isSome x5 x6 x9 x10 x11 x12 x13 x14 x15 x16 x17 x18 x19 x20 x21 x22 x23 x24 x25 (.bool false) x27 x28 x29,oF c s (kL o) []⟩):=by
   simp[gw,vy,oF,hsa,hsc,hd]
  rw[hp,fD];exact PQ c s hs o hO [] (fun _ _=>rfl) _ _ _ _ _ _ _ _ _ _ _ _ _ _ _ _ _ _ _ _ _ _ _
 |true=>
  simp only[bU];have hn:=FF hs;have hO':=fS hn.1 hn.2 hO;have h4:=lh (cT (eS s.keys (eX s)) o);have hkl:=hs.keys;have hal:=hs.ah;have w1:IntKind.i64.wrap ((s.keys.length:Int)+(s.ah.length:Int))=(s.keys.length:Int)+(s.ah.length:Int):=tI (by omega) (by omega);by_cases hk:s.keys.length+s.ah.length=0
  ·have hk1:((s.keys.length:Int)+(s.ah.length:Int)==0)=true:=by rw[aG];omega
   have hcl:cellsOf (.lst [.agg [.int .i64 1,.ai]])=[.lst [.agg [.int .i64 1,.ai]]]:=rfl;have hm:=yV (Ze hs hk) _ _ (kW c s o (J:=[.arr 12 0 [tf (eS s.keys (eX s)) .ai .ai (.aa false (s.keys.map (.int .i64))) (.lst [.agg [.int .i64 1,.ai]]) .ai .ai 0 0]]) (J':=[.arr 12 0 [tf (eS s.keys (eX s)) .ai .ai (.aa false (s.keys.map (.int .i64))) (.aa false [.agg [.int .i64 1,.aa false []]]) .ai .ai 0 0]]) (fun b τ=>by simp[aW,bG,dp])) (kW c s o (fun b τ=>by simp[aW,bG,dp])) o hO;have hp:run code gw ⟨vy c s o.isSome x5 x6 x9 x10 x11 x12 x13 x14 x15 x16 x17 x18 x19 x20 x21 x22 x23 x24 x25 x26 x27 x28 x29,oF c s (kL o) []⟩=some (.nrm,⟨vy c s (cT (eS s.keys (eX s)) o).isSome x5 x6 x9 x10 x11 x12 (.ptr 4 0 0 0) x14 x15 x16 x17 x18 x19 x20 x21 x22 x23 x24 x25 (.bool true) (.bool true) x28 x29,oF c s (kL (cT (eS s.keys (eX s)) o)) [.arr 12 0 [tf (eS s.keys (eX s)) .ai .ai (.aa false (s.keys.map (.int .i64))) (.aa false [.agg [.int .i64 1,.aa false []]]) .ai .ai 0 0]]⟩):=by
    simp only[oF,tf,show (eS s.keys (eX s)).op=4 from rfl,show (eS s.keys (eX s)).tab=0 from rfl,show (eS s.keys (eX s)).left=false from rfl,show (eS s.keys (eX s)).limit=0 from rfl,hsa,hsc,hd]at hm ⊢;simp[gw,vy,hsa,hsc,hd,w1,hk1,hcl,hm]
   rw[hp,fD];exact PQ c s hs _ hO' _ (fun b τ=>by simp[aW,bG,dp]) _ _ _ _ _ _ _ _ _ _ _ _ _ _ _ _ _ _ _ _ _ _ _
  have hk1:((s.keys.length:Int)+(s.ah.length:Int)==0)=false:=by rw[du];omega
  have hm:=yV (ach hs hk) _ _ (kW c s o (J:=[.arr 12 0 [tf (eS s.keys (eX s)) .ai .ai (.aa false (s.keys.map (.int .i64))) (.aa false (s.ah.map nE)) .ai .ai 0 0]]) (fun b τ=>by simp[aW,bG,dp];rfl)) (kW c s o (fun b τ=>by simp[aW,bG,dp])) o hO;have hp:run code gw ⟨vy c s o.isSome x5 x6 x9 x10 x11 x12 x13 x14 x15 x16 x17 x18 x19 x20 x21 x22 x23 x24 x25 x26 x27 x28 x29,oF c s (kL o) []⟩=some (.nrm,⟨vy c s (cT (eS s.keys (eX s)) o).isSome x5 x6 x9 x10 x11 x12 (.ptr 4 0 0 0) x14 x15 x16 x17 x18 x19 x20 x21 x22 x23 x24 x25 (.bool true) (.bool false) x28 x29,oF c s (kL (cT (eS s.keys (eX s)) o)) [.arr 12 0 [tf (eS s.keys (eX s)) .ai .ai (.aa false (s.keys.map (.int .i64))) (.aa false (s.ah.map nE)) .ai .ai 0 0]]⟩):=by
   simp only[oF,tf,show (eS s.keys (eX s)).op=4 from rfl,show (eS s.keys (eX s)).tab=0 from rfl,show (eS s.keys (eX s)).left=false from rfl,show (eS s.keys (eX s)).limit=0 from rfl,hsa,hsc,hd]at hm ⊢;simp[gw,vy,hsa,hsc,hd,w1,hk1,hm]
  rw[hp,fD];exact PQ c s hs _ hO' _ (fun b τ=>by simp[aW,bG,dp]) _ _ _ _ _ _ _ _ _ _ _ _ _ _ _ _ _ _ _ _ _ _ _
theorem aca(hs:xZ s)(hg:GK s)(o:Option (List bB))(hO:fB o)(x5 x6 x9 x10 x11 x12 x13 x14 x15 x16 x17 x18 x19 x20 x21 x22 x23 x24 x25 x26 x27 x28 x29:ap):∃q,run code o6 ⟨vy c s o.isSome x5 x6 x9 x10 x11 x12 x13 x14 x15 x16 x17 x18 x19 x20 x21 x22 x23 x24 x25 x26 x27 x28 x29,oF c s (kL o) []⟩=some (.ret,q)∧QD q (qD s (nm s (qB s o))):=by
 have hsa:s.a=.agg s.c:=rfl;have hsc:s.c=[.aa false (s.tables.map (.int .i64)),.aa false (s.joins.map JX.a),.aa false (s.whr.map EN.a),.aa false (s.having.map EN.a),.bool s.grouped,.bool s.distinct,.aa false (s.keys.map (.int .i64)),.aa false (s.ah.map nE),.aa false (s.items.map nv)]:=rfl;have h3:=lh o;rw[o6,zW];have hh:(s.whr=[]∧decide (0<s.whr.length)=false)∨(s.whr≠[]∧decide (0<s.whr.length)=true):=by
  cases s.whr<;>simp
 rcases hh with⟨e1,e2⟩|⟨e1,e2⟩
 ·have hF:qB s o=o:=by unfold qB;rw[if_pos e1]
  rw[hF];have hp:run code jN ⟨vy c s o.isSome x5 x6 x9 x10 x11 x12 x13 x14 x15 x16 x17 x18 x19 x20 x21 x22 x23 x24 x25 x26 x27 x28 x29,oF c s (kL o) []⟩=some (.nrm,⟨vy c s o.isSome x5 x6 x9 x10 x11 x12 x13 x14 x15 x16 x17 x18 x19 x20 x21 x22 x23 x24 (.bool false) x26 x27 x28 x29,oF c s (kL o) []⟩):=by
   simp[jN,vy,oF,hsa,hsc,e2]
  rw[hp,fD];exact TF c s hs hg o hO _ _ _ _ _ _ _ _ _ _ _ _ _ _ _ _ _ _ _ _ _ _ _
 have hF:qB s o=cT (ky s.whr) o:=by unfold qB;rw[if_neg e1]
 rw[hF];have hm:=yV (TW hs.whr) _ _ (kW c s o (J:=[]) (J':=[]) (fun _ _=>rfl)) (kW c s o (J:=[]) (J':=[]) (fun _ _=>rfl)) o hO;have hn:=va hs.whr;have hO':=fS hn.1 hn.2 hO;have h4:=lh (cT (ky s.whr) o);have hp:run code jN ⟨vy c s o.isSome x5 x6 x9 x10 x11 x12 x13 x14 x15 x16 x17 x18 x19 x20 x21 x22 x23 x24 x25 x26 x27 x28 x29,oF c s (kL o) []⟩=some (.nrm,⟨vy c s (cT (ky s.whr) o).isSome x5 x6 x9 x10 x11 x12 x13 x14 x15 x16 x17 x18 x19 x20 x21 x22 x23 x24 (.bool true) x26 x27 x28 x29,oF c s (kL (cT (ky s.whr) o)) []⟩):=by
  simp only[oF,tf,show (ky s.whr).op=3 from rfl,show (ky s.whr).tab=0 from rfl,show (ky s.whr).left=false from rfl,show (ky s.whr).limit=0 from rfl,hsa,hsc]at hm;simp[jN,vy,oF,hsa,hsc,e2,hm]
 rw[hp,fD];exact TF c s hs hg _ hO' _ _ _ _ _ _ _ _ _ _ _ _ _ _ _ _ _ _ _ _ _ _ _
end
end Go.AM
namespace Go.AM
open P
set_option maxHeartbeats 16000000
set_option maxRecDepth 8000
attribute [local simp] aF br
abbrev XB(c:List cM)(s:jJ)(ok:Bool)(k:Nat):List ap:=[eZ c,s.a,.ptr 0 0 0 0,.ptr 1 0 0 0,.ptr 2 0 0 0,.any,.any,.ptr 3 0 0 0,.bool ok,.any,.any,.any,.any,.any,.bool false,.aa false (s.tables.map (.int .i64)),.int .i64 s.tables.length,.int .i64 s.tables.length,.bool false,.any,.bool false,.aa false (s.joins.map JX.a),.int .i64 s.joins.length,.int .i64 k,.any,.any,.any,.any,.any,.any]
theorem HG{c:List cM}(hc:∀tb∈c,tb.af.length≤8000){t:Int}(h0:0≤t∧t<c.length):∃ks:List Int,ks.length≤8000∧bI I.qct [eZ c,.int .i64 t]=some (tf (js t ks) (.aa false (ks.map (.int .i64))) (.aa false []) (.aa false []) (.aa false []) (.aa false []) (.aa false []) 0 0)∧eA c t=fK (js t ks) []:=by
 have aj:t.toNat < c.length:=by omega
 have hy:c[t.toNat]?=some c[t.toNat]:=aq aj;have hm:=hc _ (aO aj);refine⟨c[t.toNat].ac,by simpa [cM.ac] using hm,Wy c t _ h0.1 hy hm,?_⟩;unfold eA;rw[if_pos h0,hy];rfl
theorem PR(c:List cM)(hc:∀tb∈c,tb.af.length≤8000)(s:jJ)(hs:xZ s)(hj:s.joins.length+1=s.tables.length)(k:Nat)(j:JX)(t:Int)(ht:0≤t∧t<c.length)(o:Option (List bB))(hk:k<s.joins.length)(hjk:s.joins[k]?=some j)(htk:s.tables[k+1]?=some t)(hO:fB o) :
  dE 4 [9,10,11,12,24] ra (run code ra ⟨XB c s o.isSome k,oF c s (kL o) []⟩) =
   cc code 4 [9,10,11,12,24] ra ⟨XB c s (eQ (fW j) o (eA c t)).isSome (k+1),oF c s (kL (eQ (fW j) o (eA c t))) []⟩:=by
 have hsa:s.a=.agg s.c:=rfl;have hsc:s.c=[.aa false (s.tables.map (.int .i64)),.aa false (s.joins.map JX.a),.aa false (s.whr.map EN.a),.aa false (s.having.map EN.a),.bool s.grouped,.bool s.distinct,.aa false (s.keys.map (.int .i64)),.aa false (s.ah.map nE),.aa false (s.items.map nv)]:=rfl;have hja:j.a=.agg [.bool j.left,.aa false (j.on.map EN.a)]:=rfl;obtain⟨ks,hks,hsv,hst⟩:=HG hc ht;have hX:=nB hc t;have hjn:=Z3 (hs.ons j (aD hjk));have hm0:=Bz (DM t hks) _ _ (kW c s o (J:=[.arr 2 0 [j.a]]) (J':=[.arr 2 0 [j.a]]) (fun b τ=>by rw[hja];simp[aW,bG,dp])) (kW c s o (fun b τ=>by rw[hja];simp[aW,bG,dp])) [] (by simp) (fun t h=>by simp at h) .ai (.inr ⟨rfl,rfl⟩);have hm1:=Bz (DM t hks) _ _ (kW c s o (J:=[.arr 2 0 [j.a],.arr 1 0 [.agg [.ai]]]) (J':=[.arr 2 0 [j.a],.arr 1 0 [.agg [.ai]]]) (fun b τ=>by rw[hja];simp[aW,bG,dp])) (kW c s o (fun b τ=>by rw[hja];simp[aW,bG,dp])) [] (by simp) (fun t h=>by simp at h) .ai (.inr ⟨rfl,rfl⟩);rw[←hst]at hm0 hm1;have hm2:=WD hjn _ _ (kW c s o (J:=[.arr 2 0 [j.a],.arr 1 0 [.agg [kL (eA c t)]]]) (J':=[.arr 2 0 [j.a],.arr 1 0 [.agg [kL (eA c t)]]]) (fun b τ=>by rw[hja];simp[aW,bG,dp,wA])) (kW c s o (fun b τ=>by rw[hja];simp[aW,bG,dp,wA])) o (eA c t) hO hX;have h1:k+1<s.tables.length:=by omega
 have h1':((k:Int)+1)<(s.tables.length:Int):=by omega
 have hgt:∀h:k+1<s.tables.length,s.tables[k+1]'h=t:=fun h=>(ak.1 htk).2;have hgj:∀h:k<s.joins.length,s.joins[k]'h=j:=fun h=>(ak.1 hjk).2;have w2:IntKind.i64.wrap ((k:Int)+1)=(k:Int)+1:=tI (by have:=hs.jl;omega) (by have:=hs.jl;omega);have i2:((k:Int)+1).toNat=k+1:=by omega
 have i3:(0:Int)≤(k:Int)+1:=by omega
 have n1:=lh o;have n2:=lh (eA c t);have n3:=lh (eQ (fW j) o (eA c t));have z1:=wA o;have z3:=wA (eQ (fW j) o (eA c t));generalize eQ (fW j) o (eA c t)=o' at *;generalize eA c t=x at *;generalize kL o=vo at *;generalize kL x=vx at *;generalize kL o'=vo' at *;simp only[oF,tf,show (fW j).op=2 from rfl,show (fW j).tab=0 from rfl,show (fW j).left=j.left from rfl,show (fW j).limit=0 from rfl,show (js t ks).op=1 from rfl,show (js t ks).tab=t from rfl,show (js t ks).left=false from rfl,show (js t ks).limit=0 from rfl,hsa,hsc,hja,XB]at hm0 hm1 hm2 hsv ⊢;generalize o.isSome=bo at *;generalize x.isSome=bx at *;generalize o'.isSome=bo' at *;cases bo<;>cases bx<;>simp only[pa,gK,gg,fv,cG]at hm2<;>simp[ra,hk,hjk,hgj,hja,h1,h1',htk,hgt,i2,i3,w2,hsv,hm0,hm1,hm2,n1,n2,n3,z1,z3,aT,aW,bG,dp]
end Go.AM
namespace Go.AM
open P
set_option maxHeartbeats 16000000
set_option maxRecDepth 8000
attribute [local simp] aF br
theorem Ss(c:List cM)(hc:∀tb∈c,tb.af.length≤8000)(s:jJ)(hs:xZ s)(hj:s.joins.length+1=s.tables.length)(hr:∀t∈s.tables,0≤t∧t<c.length)(o:Option (List bB))(hO:fB o) :
  cc code 4 [9,10,11,12,24] ra ⟨XB c s o.isSome 0,oF c s (kL o) []⟩ =
   some (.ext 2,⟨(XB c s ((s.joins.zip s.tables.tail).foldl (fun o p=>eQ (fW p.1) o (eA c p.2)) o).isSome s.joins.length).set 24 (.bool false),oF c s (kL ((s.joins.zip s.tables.tail).foldl (fun o p=>eQ (fW p.1) o (eA c p.2)) o)) []⟩) ∧
  fB ((s.joins.zip s.tables.tail).foldl (fun o p=>eQ (fW p.1) o (eA c p.2)) o):=by
 have hlen:(s.joins.zip s.tables.tail).length=s.joins.length:=by simp;omega
 exact eh (base:=4) (clr:=[9,10,11,12,24]) (b:=ra) (s.joins.zip s.tables.tail) (fun k o=>⟨XB c s o.isSome k,oF c s (kL o) []⟩) (fun _ o=>fB o)
  (fun o p=>eQ (fW p.1) o (eA c p.2)) (fun o=>(.ext 2,⟨(XB c s o.isSome s.joins.length).set 24 (.bool false),oF c s (kL o) []⟩))
  (fun k p o hk hy hO=>by
   obtain⟨j,t⟩:=p;have hk':k<s.joins.length:=by omega
   obtain⟨h1,h2⟩:=de.1 hy;rw[kY]at h2;have hjn:=vR (hs.ons j (aD h1));exact⟨PR c hc s hs hj k j t (hr t (aD h2)) o hk' h1 h2 hO,rp hjn.1 hjn.2 hO (nB hc t)⟩)
  (fun o _=>by
   rw[hlen];simp[XB,oF,ra]) o hO
def GF(o:Option (List bB)):ap:=.tup [.agg [.aa false ((o.getD []).map bB.a)],.bool o.isSome]
theorem Zi{s:jJ}(h:¬GK s)(o:Option (List bB)):nm s o=none:=by
 unfold nm GK at *
 have hg:s.grouped=false:=by cases hg:s.grouped with
  |true=>exact absurd (.inl hg) h
  |false=>rfl
 rw[hg,if_neg (by simp),if_pos];by_cases hk:0<s.keys.length+s.ah.length
 ·exact .inl hk
 exact .inr fun e=>h (.inr ⟨by omega,e⟩)
theorem HS{c:List cM}:∀(l:List (JX×Int)) (o:Option (List bB)),(o=none∨∃p∈l,eA c p.2=none)→l.foldl (fun o p=>eQ (fW p.1) o (eA c p.2)) o=none
 |[],o,h=>by
  rcases h with h|⟨p,hp,_⟩
  ·exact h
  simp at hp
 |p::l,o,h=>by
  rw[dh];apply HS l;rcases h with h|⟨q,hq,hn⟩
  ·subst h;exact .inl rfl
  rcases d4.1 hq with rfl|hq
  ·left;rw[hn];cases o<;>rfl
  exact .inr ⟨q,hq,hn⟩
theorem Pp{c:List cM}{s:jJ}(h:∃t∈s.tables,¬(0≤t∧t<c.length)):jj c s=none:=by
 unfold jj;split
 ·rfl
 rename_i hl;obtain⟨t,ht,hn⟩:=h;have hsn:eA c t=none:=by unfold eA;rw[if_neg hn]
 apply HS;obtain⟨k,hk,rfl⟩:=bP.1 ht;cases k with
 |zero=>
  left;have hl0:∀(l:List Int) (h:0<l.length),l.headD 0=l[0]:=fun l h=>by
   cases l with
   |nil=>simp at h
   |cons a b=>rfl
  have:=hl0 s.tables hk;rw[this];exact hsn
 |succ k=>
  right;have h1:k<s.joins.length:=by omega
  refine⟨(s.joins[k],s.tables[k+1]),?_,hsn⟩;rw[jh];refine⟨k,de.2 ⟨aq h1,?_⟩⟩;rw[kY];exact aq hk
section
variable (c:List cM) (hc:∀tb∈c,tb.af.length≤8000) (s:jJ) (hs:xZ s)
include hc hs
abbrev Bx(c:List cM)(s:jJ)(o:Option (List bB)):Option (List bB):=(s.joins.zip s.tables.tail).foldl (fun o p=>eQ (fW p.1) o (eA c p.2)) o
theorem adh(hj:s.joins.length+1=s.tables.length)(hr:∀t∈s.tables,0≤t∧t<c.length)(hg:GK s)(o:Option (List bB))(hO:fB o):∃q,run code o9 ⟨[eZ c,s.a,.ptr 0 0 0 0,.ptr 1 0 0 0,.ptr 2 0 0 0,.any,.any,.ptr 3 0 0 0,.bool o.isSome,.any,.any,.any,.any,.any,.bool false,.aa false (s.tables.map (.int .i64)),.int .i64 s.tables.length,.int .i64 s.tables.length,.bool false,.any,.bool false,.any,.any,.any,.any,.any,.any,.any,.any,.any],oF c s (kL o) []⟩=some (.ret,q)∧QD q (qD s (nm s (qB s (Bx c s o)))):=by
 have hsa:s.a=.agg s.c:=rfl;have hsc:s.c=[.aa false (s.tables.map (.int .i64)),.aa false (s.joins.map JX.a),.aa false (s.whr.map EN.a),.aa false (s.having.map EN.a),.bool s.grouped,.bool s.distinct,.aa false (s.keys.map (.int .i64)),.aa false (s.ah.map nE),.aa false (s.items.map nv)]:=rfl;rw[o9,zW];obtain⟨hl,hO'⟩:=Ss c hc s hs hj hr o hO;have hp:run code o5 ⟨[eZ c,s.a,.ptr 0 0 0 0,.ptr 1 0 0 0,.ptr 2 0 0 0,.any,.any,.ptr 3 0 0 0,.bool o.isSome,.any,.any,.any,.any,.any,.bool false,.aa false (s.tables.map (.int .i64)),.int .i64 s.tables.length,.int .i64 s.tables.length,.bool false,.any,.bool false,.any,.any,.any,.any,.any,.any,.any,.any,.any],oF c s (kL o) []⟩=some (.nrm,⟨(XB c s (Bx c s o).isSome s.joins.length).set 24 (.bool false),oF c s (kL (Bx c s o)) []⟩):=by
  simp only[XB,oF,aJ,hsa,hsc,Bx]at hl ⊢;simp[o5,hl]
 rw[hp,fD];exact aca c s hs hg _ hO' _ _ _ _ _ _ _ _ _ _ _ _ _ _ _ _ _ _ _ _ _ _ _
theorem adG(h1:1≤s.tables.length)(hj:s.joins.length+1=s.tables.length)(hr:∀t∈s.tables,0≤t∧t<c.length)(hg:GK s):∃q,run code pd ⟨[eZ c,s.a,.ptr 0 0 0 0,.ptr 1 0 0 0,.ptr 2 0 0 0,.any,.any,.any,.any,.any,.any,.any,.any,.any,.bool false,.aa false (s.tables.map (.int .i64)),.int .i64 s.tables.length,.int .i64 s.tables.length,.bool false,.any,.bool false,.any,.any,.any,.any,.any,.any,.any,.any,.any],[.arr 1 0 [eZ c],.arr 9 0 [s.a],.arr 1 0 [.agg [.ai]]]⟩=some (.ret,q)∧QD q (qD s (nm s (qB s (Bx c s (eA c (s.tables.headD 0)))))):=by
 have hsa:s.a=.agg s.c:=rfl;have hsc:s.c=[.aa false (s.tables.map (.int .i64)),.aa false (s.joins.map JX.a),.aa false (s.whr.map EN.a),.aa false (s.having.map EN.a),.bool s.grouped,.bool s.distinct,.aa false (s.keys.map (.int .i64)),.aa false (s.ah.map nE),.aa false (s.items.map nv)]:=rfl;rw[pd,zW];obtain⟨t,tr,ht⟩:∃t tr,s.tables=t::tr:=by
  cases ht:s.tables with
  |nil=>rw[ht]at h1;simp at h1
  |cons t tr=>exact⟨t,tr,rfl⟩
 have hhd:s.tables.headD 0=t:=by rw[ht];rfl
 have aj:0<s.tables.length:=by omega
 have hg0:∀h:0<s.tables.length,s.tables[0]'h=t:=fun h=>by simp[ht]
 have hg1:s.tables[0]?=some t:=by simp[ht]
 rw[hhd];have htr:=hr t (by rw[ht];simp);obtain⟨ks,hks,hsv,hst⟩:=HG hc htr;have hz:∀b τ m,fz false true b τ (m+3) s.a=s.a:=fun b τ m=>Fx.fx false true b τ m s;have hn9:aC s.a=9:=rfl;have hq0:AO [.arr 1 0 [eZ c],.arr 9 0 [s.a],.arr 1 0 [.agg [.ai]]] [.arr 1 0 [eZ c],.arr 9 0 [s.a],.arr 1 0 [.agg [.ai]]]:=fun τ b _=>by simp[aW,bG,dp,hz,hn9]
 have hm0:=Bz (DM t hks) _ _ hq0 hq0 [] (by simp) (fun t h=>by simp at h) .ai (.inr ⟨rfl,rfl⟩);have hq1:AO [.arr 1 0 [eZ c],.arr 9 0 [s.a],.arr 1 0 [.agg [.ai]],.arr 1 0 [.agg [.ai]]] [.arr 1 0 [eZ c],.arr 9 0 [s.a],.arr 1 0 [.agg [.ai]],.arr 1 0 [.agg [.ai]]]:=fun τ b _=>by simp[aW,bG,dp,hz,hn9]
 have hm1:=Bz (DM t hks) _ _ hq1 hq1 [] (by simp) (fun t h=>by simp at h) .ai (.inr ⟨rfl,rfl⟩);rw[←hst]at hm0 hm1;have hO:=nB hc t;have n2:=lh (eA c t);have hp:run code pj ⟨[eZ c,s.a,.ptr 0 0 0 0,.ptr 1 0 0 0,.ptr 2 0 0 0,.any,.any,.any,.any,.any,.any,.any,.any,.any,.bool false,.aa false (s.tables.map (.int .i64)),.int .i64 s.tables.length,.int .i64 s.tables.length,.bool false,.any,.bool false,.any,.any,.any,.any,.any,.any,.any,.any,.any],[.arr 1 0 [eZ c],.arr 9 0 [s.a],.arr 1 0 [.agg [.ai]]]⟩=some (.nrm,⟨[eZ c,s.a,.ptr 0 0 0 0,.ptr 1 0 0 0,.ptr 2 0 0 0,.any,.any,.ptr 3 0 0 0,.bool (eA c t).isSome,.any,.any,.any,.any,.any,.bool false,.aa false (s.tables.map (.int .i64)),.int .i64 s.tables.length,.int .i64 s.tables.length,.bool false,.any,.bool false,.any,.any,.any,.any,.any,.any,.any,.any,.any],oF c s (kL (eA c t)) []⟩):=by
  simp only[oF,tf,show (js t ks).op=1 from rfl,show (js t ks).tab=t from rfl,show (js t ks).left=false from rfl,show (js t ks).limit=0 from rfl,hsa,hsc]at hm0 hm1 hsv ⊢;generalize kL (eA c t)=vx at *;generalize (eA c t).isSome=bx at *;simp[pj,aj,hg0,hg1,hsv,hm0,hm1,n2]
 rw[hp,fD];exact adh c hc s hs hj hr hg _ hO
theorem aee(h1:1≤s.tables.length)(h3:s.tables.length≤3)(hj:s.joins.length+1=s.tables.length)(hr:∀t∈s.tables,0≤t∧t<c.length):∃q,run code pu ⟨[eZ c,s.a,.ptr 0 0 0 0,.ptr 1 0 0 0,.ptr 2 0 0 0,.any,.any,.any,.any,.any,.any,.any,.any,.any,.bool false,.aa false (s.tables.map (.int .i64)),.int .i64 s.tables.length,.int .i64 s.tables.length,.bool false,.any,.any,.any,.any,.any,.any,.any,.any,.any,.any,.any],[.arr 1 0 [eZ c],.arr 9 0 [s.a],.arr 1 0 [.agg [.ai]]]⟩=some (.ret,q)∧QD q (fh c s):=by
 have hsa:s.a=.agg s.c:=rfl;have hsc:s.c=[.aa false (s.tables.map (.int .i64)),.aa false (s.joins.map JX.a),.aa false (s.whr.map EN.a),.aa false (s.having.map EN.a),.bool s.grouped,.bool s.distinct,.aa false (s.keys.map (.int .i64)),.aa false (s.ah.map nE),.aa false (s.items.map nv)]:=rfl;have hkl:=hs.keys;have hal:=hs.ah;have hhl:s.having.length≤4294967296:=aZ hs.having (by decide);have w1:IntKind.i64.wrap ((s.keys.length:Int)+(s.ah.length:Int))=(s.keys.length:Int)+(s.ah.length:Int):=tI (by omega) (by omega);have w2:IntKind.i64.wrap ((s.keys.length:Int)+(s.ah.length:Int)+(s.having.length:Int))=(s.keys.length:Int)+(s.ah.length:Int)+(s.having.length:Int):=tI (by omega) (by omega);rw[pu,zW];have hrd:jj c s=Bx c s (eA c (s.tables.headD 0)):=by unfold jj;rw[if_neg (by omega)]
 by_cases hg:GK s
 ·have hp:run code jS ⟨[eZ c,s.a,.ptr 0 0 0 0,.ptr 1 0 0 0,.ptr 2 0 0 0,.any,.any,.any,.any,.any,.any,.any,.any,.any,.bool false,.aa false (s.tables.map (.int .i64)),.int .i64 s.tables.length,.int .i64 s.tables.length,.bool false,.any,.any,.any,.any,.any,.any,.any,.any,.any,.any,.any],[.arr 1 0 [eZ c],.arr 9 0 [s.a],.arr 1 0 [.agg [.ai]]]⟩=some (.nrm,⟨[eZ c,s.a,.ptr 0 0 0 0,.ptr 1 0 0 0,.ptr 2 0 0 0,.any,.any,.any,.any,.any,.any,.any,.any,.any,.bool false,.aa false (s.tables.map (.int .i64)),.int .i64 s.tables.length,.int .i64 s.tables.length,.bool false,.any,.bool false,.any,.any,.any,.any,.any,.any,.any,.any,.any],[.arr 1 0 [eZ c],.arr 9 0 [s.a],.arr 1 0 [.agg [.ai]]]⟩):=by
   simp only[hsa,hsc];unfold GK at hg;cases hd:s.grouped with
   |true=>simp[jS]
   |false=>
    rcases hg with h|⟨e1,e2⟩
    ·rw[hd]at h;cases h
    have hk:¬(0:Int)<(s.keys.length:Int)+(s.ah.length:Int)+(s.having.length:Int):=by rw[e2];simp;omega
    simp[jS,w1,w2,hk]
  rw[hp,fD];unfold fh;rw[hrd];exact adG c hc s hs h1 hj hr hg
 have hT:fh c s=none:=by unfold fh;rw[Zi hg,rk]
 rw[hT];unfold GK at hg
 have hd:s.grouped=false:=by cases hd:s.grouped with
  |true=>exact absurd (.inl hd) hg
  |false=>rfl
 have hk:(0:Int)<(s.keys.length:Int)+(s.ah.length:Int)+(s.having.length:Int):=by
  by_cases hk:0<s.keys.length+s.ah.length
  ·omega
  have:s.having≠[]:=fun e=>hg (.inr ⟨by omega,e⟩);have:=fy.2 this;omega
 simp only[hsa,hsc,hd];exact⟨_,by simp[jS,w1,w2,hk];rfl,rfl,rfl,rfl⟩
theorem ady(h1:1≤s.tables.length)(h3:s.tables.length≤3)(hj:s.joins.length+1=s.tables.length):∃q,run code pq ⟨[eZ c,s.a,.ptr 0 0 0 0,.ptr 1 0 0 0,.ptr 2 0 0 0,.bool false,.any,.any,.any,.any,.any,.any,.any,.any,.bool false,.any,.any,.any,.any,.any,.any,.any,.any,.any,.any,.any,.any,.any,.any,.any],[.arr 1 0 [eZ c],.arr 9 0 [s.a],.arr 1 0 [.agg [.ai]]]⟩=some (.ret,q)∧QD q (fh c s):=by
 have hsa:s.a=.agg s.c:=rfl;have hsc:s.c=[.aa false (s.tables.map (.int .i64)),.aa false (s.joins.map JX.a),.aa false (s.whr.map EN.a),.aa false (s.having.map EN.a),.bool s.grouped,.bool s.distinct,.aa false (s.keys.map (.int .i64)),.aa false (s.ah.map nE),.aa false (s.items.map nv)]:=rfl;rw[pq,zW];have hmost:s.tables.length≤aV:=by unfold aV;omega
 have loop:=gf (base:=3) (clr:=[5,6,18,19]) (b:=uO) s.tables
  (fun k=>⟨[eZ c,s.a,.ptr 0 0 0 0,.ptr 1 0 0 0,.ptr 2 0 0 0,.any,.any,.any,.any,.any,.any,.any,.any,.any,.bool false,.aa false (s.tables.map (.int .i64)),.int .i64 s.tables.length,.int .i64 k,.any,.any,.any,.any,.any,.any,.any,.any,.any,.any,.any,.any],[.arr 1 0 [eZ c],.arr 9 0 [s.a],.arr 1 0 [.agg [.ai]]]⟩) (fun t=>decide (t<0) ||decide ((c.length:Int)≤t))
  (.ext 0,⟨[eZ c,s.a,.ptr 0 0 0 0,.ptr 1 0 0 0,.ptr 2 0 0 0,.any,.any,.any,.any,.any,.any,.any,.any,.any,.bool false,.aa false (s.tables.map (.int .i64)),.int .i64 s.tables.length,.int .i64 s.tables.length,.bool false,.any,.any,.any,.any,.any,.any,.any,.any,.any,.any,.any],[.arr 1 0 [eZ c],.arr 9 0 [s.a],.arr 1 0 [.agg [.ai]]]⟩)
  (fun o=>∃q,o=(.ret,q)∧QD q none)
  (fun k t hk hy hp=>by
   have hg:∀h:k<s.tables.length,s.tables[k]'h=t:=fun h=>(ak.1 hy).2;have w2:=bJ hk hmost;have p1:¬t<0:=by simp at hp;omega
   have p2:¬(c.length:Int)≤t:=by simp at hp;omega
   simp[uO,hk,hy,hg,w2,p1,p2,aT])
  (fun k t hk hy hp=>by
   have hg:∀h:k<s.tables.length,s.tables[k]'h=t:=fun h=>(ak.1 hy).2;by_cases p1:t<0
   ·exact⟨_,by simp[uO,hk,hy,hg,p1];rfl,_,rfl,rfl,rfl,rfl⟩
   have p2:(c.length:Int)≤t:=by simp[p1]at hp;omega
   exact⟨_,by simp[uO,hk,hy,hg,p1,p2];rfl,_,rfl,rfl,rfl,rfl⟩)
  (by simp[uO])
 rcases loop with⟨ha,loop⟩|⟨ha,o,loop,q,rfl,hq⟩
 ·have hr:∀t∈s.tables,0≤t∧t<c.length:=fun t ht=>by
   have:=dX.1 ha t ht;simp at this;omega
  have hp:run code jV ⟨[eZ c,s.a,.ptr 0 0 0 0,.ptr 1 0 0 0,.ptr 2 0 0 0,.bool false,.any,.any,.any,.any,.any,.any,.any,.any,.bool false,.any,.any,.any,.any,.any,.any,.any,.any,.any,.any,.any,.any,.any,.any,.any],[.arr 1 0 [eZ c],.arr 9 0 [s.a],.arr 1 0 [.agg [.ai]]]⟩=some (.nrm,⟨[eZ c,s.a,.ptr 0 0 0 0,.ptr 1 0 0 0,.ptr 2 0 0 0,.any,.any,.any,.any,.any,.any,.any,.any,.any,.bool false,.aa false (s.tables.map (.int .i64)),.int .i64 s.tables.length,.int .i64 s.tables.length,.bool false,.any,.any,.any,.any,.any,.any,.any,.any,.any,.any,.any],[.arr 1 0 [eZ c],.arr 9 0 [s.a],.arr 1 0 [.agg [.ai]]]⟩):=by
   simp only[hsa,hsc,aJ]at loop ⊢;simp[jV,loop]
  rw[hp,fD];exact aee c hc s hs h1 h3 hj hr
 have hT:fh c s=none:=by
  have:jj c s=none:=Pp (by
   obtain⟨t,ht,hp⟩:=dJ.1 ha;exact⟨t,ht,by simp at hp;omega⟩)
  unfold fh;rw[this,Bo,xp,rk]
 rw[hT];have hp:run code jV ⟨[eZ c,s.a,.ptr 0 0 0 0,.ptr 1 0 0 0,.ptr 2 0 0 0,.bool false,.any,.any,.any,.any,.any,.any,.any,.any,.bool false,.any,.any,.any,.any,.any,.any,.any,.any,.any,.any,.any,.any,.any,.any,.any],[.arr 1 0 [eZ c],.arr 9 0 [s.a],.arr 1 0 [.agg [.ai]]]⟩=some (.ret,q):=by
  simp only[hsa,hsc,aJ]at loop ⊢;simp[jV,loop]
 rw[hp,MV];exact⟨q,rfl,hq⟩
theorem EH:bI I.qcr [eZ c,s.a]=some (GF (fh c s)):=by
 have hsa:s.a=.agg s.c:=rfl;have hsc:s.c=[.aa false (s.tables.map (.int .i64)),.aa false (s.joins.map JX.a),.aa false (s.whr.map EN.a),.aa false (s.having.map EN.a),.bool s.grouped,.bool s.distinct,.aa false (s.keys.map (.int .i64)),.aa false (s.ah.map nE),.aa false (s.items.map nv)]:=rfl;have hsz:∀fl top b τ m,fz fl top b τ (m+3) s.a=s.a:=fun fl top b τ m=>Fx.fx fl top b τ m s;have hn9:aC s.a=9:=rfl;rw[aQ aki rfl];have w1:IntKind.i64.wrap ((s.tables.length:Int)-1)=(s.tables.length:Int)-1:=tI (by omega) (by have:=hs.tl;omega);by_cases h:s.tables.length<1∨3<s.tables.length∨s.joins.length+1≠s.tables.length
 ·have hT:fh c s=none:=by
   have:jj c s=none:=by unfold jj;rw[if_pos h]
   unfold fh;rw[this,Bo,xp,rk]
  rw[hT];simp only[hsa,hsc];by_cases h1:s.tables.length<1
  ·have h1':(s.tables.length:Int)<1:=by omega
   simp[aoe,mK,ka,jY,jR,h1',GF]
  have h1':¬(s.tables.length:Int)<1:=by omega
  by_cases h2:3<s.tables.length
  ·have h2':(3:Int)<(s.tables.length:Int):=by omega
   simp[aoe,mK,ka,jY,jR,h1',h2',GF]
  have h2':¬(3:Int)<(s.tables.length:Int):=by omega
  have h3:((s.joins.length:Int) != (s.tables.length:Int)-1)=true:=by simp;omega
  simp[aoe,mK,ka,jY,jR,h1',h2',h3,w1,GF]
 have h1':¬(s.tables.length:Int)<1:=by omega
 have h2':¬(3:Int)<(s.tables.length:Int):=by omega
 have h3:((s.joins.length:Int) != (s.tables.length:Int)-1)=false:=by simp;omega
 obtain⟨q,h2,q1,q2,q3⟩:=ady c hc s hs (by omega) (by omega) (by omega);have hf:∀b τ m,fz false false b τ (m+3) (kL (fh c s))=.aa false (((fh c s).getD []).map bB.a):=fun b τ m=>by cases fh c s<;>simp[kL]
 have hn:=lh (fh c s);simp only[hsa,hsc]at h2 ⊢;unfold GF;generalize kL (fh c s)=v at *;simp[aoe,mK,ka,jY,jR,h1',h2',h3,w1,h2,q1,q2,q3,hf]
end
end Go.AM
namespace Go.AM
open P
set_option maxHeartbeats 16000000
set_option maxRecDepth 8000
attribute [local simp] aF br
theorem D1:∀(a b:List Int),a.length=b.length→(a.zip b).any (fun p=>p.1 != p.2)=!decide (a=b)
 |[],[],_=>rfl
 |[],_::_,h=>by simp at h
 |_::_,[],h=>by simp at h
 |x::a,y::b,h=>by
  rw[gu,md,D1 a b (by simpa using h)];by_cases e:x=y
  ·subst e;simp
  simp[e]
theorem Np(b1 b2:Bool)(a a':List Int)(hl:a.length≤8000):bI I.qhs [.aa b1 (bE a),.aa b2 (bE a')]=some (.bool (decide (a=a'))):=by
 rw[aQ agA rfl];have hm:a.length≤aV:=by unfold aV;omega
 by_cases hlen:a.length=a'.length
 rotate_left
 ·have h1:((a.length:Int) != (a'.length:Int))=true:=by simp;omega
  have h2:decide (a=a')=false:=by simp;intro e;exact hlen (by rw[e])
  rw[h2];simp[aoo,RI,h1]
 have hz:(a.zip a').length=a.length:=by simp;omega
 have loop:=gf (base:=0) (clr:=[2,3,7,8]) (b:=zC) (a.zip a') (fun k=>⟨[.aa b1 (bE a),.aa b2 (bE a'),.any,.any,.bool false,.int .i64 a.length,.int .i64 k,.any,.any],[]⟩) (fun p=>p.1 != p.2)
  (.ext 0,⟨[.aa b1 (bE a),.aa b2 (bE a'),.any,.any,.bool false,.int .i64 a.length,.int .i64 a.length,.bool false,.any],[]⟩) (fun o=>∃q,o=(.ret,q)∧q.env[2]?=some (.bool false))
  (fun k p hk hy hp=>by
   obtain⟨x,y⟩:=p;obtain⟨e1,e2⟩:=de.1 hy;have k1:k<a.length:=by omega
   have k2:k<a'.length:=by omega
   have g1:∀h:k<a.length,a[k]'h=x:=fun h=>(ak.1 e1).2;have g2:∀h:k<a'.length,a'[k]'h=y:=fun h=>(ak.1 e2).2;have w2:=bJ k1 hm;simp only at hp;simp[zC,k1,k2,e1,e2,g1,g2,w2,hp,aT])
  (fun k p hk hy hp=>by
   obtain⟨x,y⟩:=p;obtain⟨e1,e2⟩:=de.1 hy;have k1:k<a.length:=by omega
   have k2:k<a'.length:=by omega
   have g1:∀h:k<a.length,a[k]'h=x:=fun h=>(ak.1 e1).2;have g2:∀h:k<a'.length,a'[k]'h=y:=fun h=>(ak.1 e2).2;simp only at hp;exact⟨_,by simp[zC,k1,k2,e1,e2,g1,g2,hp];rfl,_,rfl,rfl⟩)
  (by rw[hz];simp[zC])
 have h1:((a.length:Int) != (a'.length:Int))=false:=by simp;omega
 rw[D1 a a' hlen]at loop;rcases loop with⟨ha,loop⟩|⟨ha,o,loop,q,rfl,hq⟩
 ·have h2:decide (a=a')=true:=by simpa using ha
  rw[h2];simp only[aJ]at loop;simp[aoo,RI,h1,loop]
 have h2:decide (a=a')=false:=by simpa using ha
 rw[h2];simp only[aJ]at loop;simp[aoo,RI,h1,loop,hq]
theorem wO(b1 b2:Bool)(a a':List Int)(hl:a.length≤8000):bI I.qca [.aa b1 (bE a),.aa b2 (bE a')]=some (.bool (decide (a=a'))):=by
 rw[aQ aeK rfl];have hm:a.length≤aV:=by unfold aV;omega
 by_cases hlen:a.length=a'.length
 rotate_left
 ·have h1:((a.length:Int) != (a'.length:Int))=true:=by simp;omega
  have h2:decide (a=a')=false:=by simp;intro e;exact hlen (by rw[e])
  rw[h2];simp[aoj,PT,h1]
 have hz:(a.zip a').length=a.length:=by simp;omega
 have loop:=gf (base:=0) (clr:=[2,3,7,8]) (b:=Ah) (a.zip a') (fun k=>⟨[.aa b1 (bE a),.aa b2 (bE a'),.any,.any,.bool false,.int .i64 a.length,.int .i64 k,.any,.any],[]⟩) (fun p=>p.1 != p.2)
  (.ext 0,⟨[.aa b1 (bE a),.aa b2 (bE a'),.any,.any,.bool false,.int .i64 a.length,.int .i64 a.length,.bool false,.any],[]⟩) (fun o=>∃q,o=(.ret,q)∧q.env[2]?=some (.bool false))
  (fun k p hk hy hp=>by
   obtain⟨x,y⟩:=p;obtain⟨e1,e2⟩:=de.1 hy;have k1:k<a.length:=by omega
   have k2:k<a'.length:=by omega
   have g1:∀h:k<a.length,a[k]'h=x:=fun h=>(ak.1 e1).2;have g2:∀h:k<a'.length,a'[k]'h=y:=fun h=>(ak.1 e2).2;have w2:=bJ k1 hm;simp only at hp;simp[Ah,k1,k2,e1,e2,g1,g2,w2,hp,aT])
  (fun k p hk hy hp=>by
   obtain⟨x,y⟩:=p;obtain⟨e1,e2⟩:=de.1 hy;have k1:k<a.length:=by omega
   have k2:k<a'.length:=by omega
   have g1:∀h:k<a.length,a[k]'h=x:=fun h=>(ak.1 e1).2;have g2:∀h:k<a'.length,a'[k]'h=y:=fun h=>(ak.1 e2).2;simp only at hp;exact⟨_,by simp[Ah,k1,k2,e1,e2,g1,g2,hp];rfl,_,rfl,rfl⟩)
  (by rw[hz];simp[Ah])
 have h1:((a.length:Int) != (a'.length:Int))=false:=by simp;omega
 rw[D1 a a' hlen]at loop;rcases loop with⟨ha,loop⟩|⟨ha,o,loop,q,rfl,hq⟩
 ·have h2:decide (a=a')=true:=by simpa using ha
  rw[h2];simp only[aJ]at loop;simp[aoj,PT,h1,loop]
 have h2:decide (a=a')=false:=by simpa using ha
 rw[h2];simp only[aJ]at loop;simp[aoj,PT,h1,loop,hq]
theorem vN(b1 b2:Bool)(a a':List Int)(hl:a.length≤8000):bI I.qcj [.aa b1 (bE a),.aa b2 (bE a')]=some (.bool (decide (a=a'))):=by
 rw[aQ ajI rfl];have hm:a.length≤aV:=by unfold aV;omega
 by_cases hlen:a.length=a'.length
 rotate_left
 ·have h1:((a.length:Int) != (a'.length:Int))=true:=by simp;omega
  have h2:decide (a=a')=false:=by simp;intro e;exact hlen (by rw[e])
  rw[h2];simp[aoy,Qh,h1]
 have hz:(a.zip a').length=a.length:=by simp;omega
 have loop:=gf (base:=0) (clr:=[2,5,6]) (b:=Al) (a.zip a') (fun k=>⟨[.aa b1 (bE a),.aa b2 (bE a'),.any,.int .i64 k,.bool false,.any,.any],[]⟩) (fun p=>p.1 != p.2)
  (.ext 0,⟨[.aa b1 (bE a),.aa b2 (bE a'),.any,.int .i64 a.length,.bool false,.bool false,.any],[]⟩) (fun o=>∃q,o=(.ret,q)∧q.env[2]?=some (.bool false))
  (fun k p hk hy hp=>by
   obtain⟨x,y⟩:=p;obtain⟨e1,e2⟩:=de.1 hy;have k1:k<a.length:=by omega
   have k2:k<a'.length:=by omega
   have g1:∀h:k<a.length,a[k]'h=x:=fun h=>(ak.1 e1).2;have g2:∀h:k<a'.length,a'[k]'h=y:=fun h=>(ak.1 e2).2;have w2:=bJ k1 hm;simp only at hp;simp[Al,k1,k2,e1,e2,g1,g2,w2,hp,aT])
  (fun k p hk hy hp=>by
   obtain⟨x,y⟩:=p;obtain⟨e1,e2⟩:=de.1 hy;have k1:k<a.length:=by omega
   have k2:k<a'.length:=by omega
   have g1:∀h:k<a.length,a[k]'h=x:=fun h=>(ak.1 e1).2;have g2:∀h:k<a'.length,a'[k]'h=y:=fun h=>(ak.1 e2).2;simp only at hp;exact⟨_,by simp[Al,k1,k2,e1,e2,g1,g2,hp];rfl,_,rfl,rfl⟩)
  (by rw[hz];simp[Al])
 have h1:((a.length:Int) != (a'.length:Int))=false:=by simp;omega
 rw[D1 a a' hlen]at loop;rcases loop with⟨ha,loop⟩|⟨ha,o,loop,q,rfl,hq⟩
 ·have h2:decide (a=a')=true:=by simpa using ha
  rw[h2];simp only[aJ]at loop;simp[aoy,Qh,h1,loop]
 have h2:decide (a=a')=false:=by simpa using ha
 rw[h2];simp only[aJ]at loop;simp[aoy,Qh,h1,loop,hq]
end Go.AM
namespace Go.AM
open P
set_option maxHeartbeats 16000000
set_option maxRecDepth 8000
attribute [local simp] aF br
theorem adM(e:EN):eqa true [0,0,0,0,0,0,0,2] e.a e.a=some (.bool false):=by
 cases e;simp[EN.a,eqa,d7,tm,kP,lE]
theorem rH(b:Bool)(l:List EN)(hl:l.length≤wJ):bI I.qbq [.agg [.aa b (l.map EN.a)],.agg [.aa b (l.map EN.a)]]=some (.bool true):=by
 rw[aQ ai1 rfl];have hm:l.length≤aV:=aZ hl (by decide);have loop:=da (base:=2) (clr:=[4,5,9,10]) (b:=DE)
  (fun k=>⟨[.agg [.aa b (l.map EN.a)],.agg [.aa b (l.map EN.a)],.ptr 0 0 0 0,.ptr 1 0 0 0,.any,.any,.bool false,.int .i64 l.length,.int .i64 k,.any,.any],[.arr 1 0 [.agg [.aa b (l.map EN.a)]],.arr 1 0 [.agg [.aa b (l.map EN.a)]]]⟩) l.length
  (.ext 0,⟨[.agg [.aa b (l.map EN.a)],.agg [.aa b (l.map EN.a)],.ptr 0 0 0 0,.ptr 1 0 0 0,.any,.any,.bool false,.int .i64 l.length,.int .i64 l.length,.bool false,.any],[.arr 1 0 [.agg [.aa b (l.map EN.a)]],.arr 1 0 [.agg [.aa b (l.map EN.a)]]]⟩)
  (fun k hk=>by
   have hy:l[k]?=some l[k]:=aq hk;have hgg:∀h:k<l.length,l[k]'h=l[k]'hk:=fun _=>rfl;have n3:aC (l[k]).a=8∧isAgg (l[k]).a=true:=⟨rfl,rfl⟩;generalize l[k]=e at *;have he:e.a=.agg (cellsOf e.a):=rfl;have he2:(d7 [0,0,0,0,0,0,0,2] (cellsOf e.a) (cellsOf e.a)).map (neg true)=some (.bool false):=adM e;have hel:(cellsOf e.a).length=8:=rfl;generalize cellsOf e.a=ce at *;simp[DE,hk,hy,hgg,n3,he,hel,he2,bJ hk hm,aT])
  (by simp[DE])
 simp at loop;cases b<;>simp[apB,abU,loop]
theorem Cv(b:Bool)(l:List kh)(hl:l.length≤8000)(he:∀e∈l,e.l.length≤wJ):bI I.qbr [.aa b (l.map nv),.aa b (l.map nv)]=some (.bool true):=by
 rw[aQ ahh rfl];have hm:l.length≤aV:=by unfold aV;omega
 have loop:=da (base:=0) (clr:=[2,3,7,8]) (b:=DH)
  (fun k=>⟨[.aa b (l.map nv),.aa b (l.map nv),.any,.any,.bool false,.int .i64 l.length,.int .i64 k,.any,.any],[]⟩) l.length
  (.ext 0,⟨[.aa b (l.map nv),.aa b (l.map nv),.any,.any,.bool false,.int .i64 l.length,.int .i64 l.length,.bool false,.any],[]⟩)
  (fun k hk=>by
   have hy:l[k]?=some l[k]:=aq hk;have hgg:∀h:k<l.length,l[k]'h=l[k]'hk:=fun _=>rfl;have hs:=rH false (l[k]).l (he _ (aO hk));generalize l[k]=e at *;simp[DH,hk,hy,hgg,nv,hs,bJ hk hm,aT])
  (by simp[DH])
 simp at loop;simp[ap0,aaa,loop]
end Go.AM
namespace Go.AM
open P
set_option maxHeartbeats 16000000
set_option maxRecDepth 8000
attribute [local simp] aF br
abbrev cZ(n:bB):ap:=.agg [.int .i64 n.op,.int .i64 n.l,.int .i64 n.r,.int .i64 n.tab,.aa false (n.ac.map (.int .i64)),.bool n.left,.aa false (n.cond.map EN.a),.aa false (n.keys.map (.int .i64)),.aa false (n.ah.map nE),.aa false (n.items.map nv),.aa false (n.ords.map fU),.int .i64 n.limit]
theorem NW(n:bB)(hn:NS n)(hk:n.ac.length≤8000)(ho:n.ords.length≤8000):bI I.qck [pM n,pM n]=some (.bool true):=by
 rw[aQ akr rfl];have hz:pM n=cZ n:=rfl;have i1:=vN false false n.ac n.ac hk;have i2:=vN false false n.keys n.keys hn.keys;have s1:=rH false n.cond hn.fit.cond;have s2:=Cv false n.items hn.items hn.fit.exprs;have loop1:=da (base:=2) (clr:=[4,9,10]) (b:=DN)
  (fun k=>⟨[cZ n,cZ n,.ptr 0 0 0 0,.ptr 1 0 0 0,.any,.int .i64 k,.any,.bool false,.bool false,.any,.any,.any,.any],[.arr 12 0 [cZ n],.arr 12 0 [cZ n]]⟩) n.ah.length
  (.ext 0,⟨[cZ n,cZ n,.ptr 0 0 0 0,.ptr 1 0 0 0,.any,.int .i64 n.ah.length,.any,.bool false,.bool false,.bool false,.any,.any,.any],[.arr 12 0 [cZ n],.arr 12 0 [cZ n]]⟩)
  (fun k hk=>by
   have hy:n.ah[k]?=some n.ah[k]:=aq hk;have hgg:∀h:k<n.ah.length,n.ah[k]'h=n.ah[k]'hk:=fun _=>rfl;have hs:=rH false (n.ah[k]).arg (hn.fit.args _ (aO hk));have hm:n.ah.length≤aV:=by have:=hn.ah;unfold aV;omega
   generalize n.ah[k]=g at *;simp[cZ,DN,hk,hy,hgg,nE,hs,bJ hk hm,aT])
  (by simp[DN])
 have loop2:=da (base:=2) (clr:=[4,11,12]) (b:=D3)
  (fun k=>⟨[cZ n,cZ n,.ptr 0 0 0 0,.ptr 1 0 0 0,.any,.int .i64 n.ah.length,.int .i64 k,.bool false,.bool false,.bool false,.any,.any,.any],[.arr 12 0 [cZ n],.arr 12 0 [cZ n]]⟩) n.ords.length
  (.ext 2,⟨[cZ n,cZ n,.ptr 0 0 0 0,.ptr 1 0 0 0,.any,.int .i64 n.ah.length,.int .i64 n.ords.length,.bool false,.bool false,.bool false,.any,.bool false,.any],[.arr 12 0 [cZ n],.arr 12 0 [cZ n]]⟩)
  (fun k hk=>by
   have hy:n.ords[k]?=some n.ords[k]:=aq hk;have hgg:∀h:k<n.ords.length,n.ords[k]'h=n.ords[k]'hk:=fun _=>rfl;have hm:n.ords.length≤aV:=by unfold aV;omega
   generalize n.ords[k]=g at *;obtain⟨c,d⟩:=g;simp[cZ,D3,hk,hy,hgg,fU,eqa,d7,tm,lE,neg,bJ hk hm,aT])
  (by simp[D3])
 simp only[aJ]at loop1 loop2;rw[hz];simp at i1 i2;simp[ao4,abE,i1,i2,s1,s2,loop1,loop2]
theorem T7(ns:List bB)(hN:∀n∈ns,NS n∧n.ac.length≤8000∧n.ords.length≤8000∧n.a=pM n)(hl:ns.length≤8000):bI I.qci [.agg [.aa false (ns.map bB.a)],.agg [.aa false (ns.map bB.a)]]=some (.bool true):=by
 rw[aQ ahK rfl];have hm:ns.length≤aV:=by unfold aV;omega
 have loop:=da (base:=2) (clr:=[4,7,8]) (b:=Dn)
  (fun k=>⟨[.agg [.aa false (ns.map bB.a)],.agg [.aa false (ns.map bB.a)],.ptr 0 0 0 0,.ptr 1 0 0 0,.any,.int .i64 k,.bool false,.any,.any],[.arr 1 0 [.agg [.aa false (ns.map bB.a)]],.arr 1 0 [.agg [.aa false (ns.map bB.a)]]]⟩) ns.length
  (.ext 0,⟨[.agg [.aa false (ns.map bB.a)],.agg [.aa false (ns.map bB.a)],.ptr 0 0 0 0,.ptr 1 0 0 0,.any,.int .i64 ns.length,.bool false,.bool false,.any],[.arr 1 0 [.agg [.aa false (ns.map bB.a)]],.arr 1 0 [.agg [.aa false (ns.map bB.a)]]]⟩)
  (fun k hk=>by
   have hy:ns[k]?=some ns[k]:=aq hk;have hgg:∀h:k<ns.length,ns[k]'h=ns[k]'hk:=fun _=>rfl;obtain⟨h1,h2,h3,h4⟩:=hN _ (aO hk);have hs:=NW ns[k] h1 h2 h3;rw[←h4]at hs;generalize ns[k]=n at *;have n3:aC n.a=12∧isAgg n.a=true:=⟨rfl,rfl⟩;have n1:∀base σ m,fz true false base σ (m+3) n.a=n.a:=fun base σ m=>Ft.ft true false base σ m n rfl;simp[Dn,hk,hy,hgg,n3,n1,hs,bJ hk hm,aT])
  (by simp[Dn])
 simp only[aJ]at loop;simp[ap4,aac,loop]
end Go.AM
namespace Go.AM
set_option maxHeartbeats 8000000
set_option maxRecDepth 8000
theorem LW{ns:List bB}(h:ko ns=true):∀n∈ns,n.ac.length≤8000∧n.ords.length≤8000:=by
 intro n hn;obtain⟨i,hi,rfl⟩:=bP.1 hn;unfold ko at h;simp only[am,aR,aI,eY]at h;have hk:=h.1.2 i hi;have hy:ns[i]?=some ns[i]:=aq hi;rw[kd,hy]at hk;generalize ns[i]=n at *;simp only at hk;split at hk
 ·cases hk
 rename_i hc;have how:sN n=true:=by
  cases e:sN n with
  |true=>rfl
  |false=>exact absurd (.inr e) hc
 have hkn:∃a b,(zh n a b).isSome:=by
  split at hk
  ·exact⟨[],[],by cases hq:zh n [] []<;>simp_all⟩
  split at hk
  ·cases ha:kd ns i with
   |none=>simp[ha]at hk
   |some a=>exact⟨a,[],by cases hq:zh n a []<;>simp_all⟩
  cases ha:kd ns (i-cI ns i) with
  |none=>simp[ha]at hk
  |some a=>
   cases hb:kd ns i with
   |none=>simp[ha,hb]at hk
   |some b=>exact⟨a,b,by cases hq:zh n a b<;>simp_all⟩
 obtain⟨a,b,hkn⟩:=hkn;unfold sN at how;constructor
 ·by_cases h1:n.op=1
  ·unfold zh at hkn;rw[if_pos h1]at hkn;have:wQ n=true:=by
    cases e:wQ n with
    |true=>rfl
    |false=>rw[e]at hkn;simp at hkn
   unfold wQ at this;simp only[am,aR]at this;omega
  have:n.ac=[]:=by
   have:(n.op==1)=false:=by simpa using h1
   rw[this]at how;simp at how;simp_all
  rw[this];simp
 by_cases h8:n.op=8
 ·unfold zh at hkn;rw[if_neg (by omega),if_neg (by omega),if_neg (by omega),if_neg (by omega),if_neg (by omega),if_neg (by omega),if_neg (by omega)]at hkn;have:vw n a=true:=by
   cases e:vw n a with
   |true=>rfl
   |false=>rw[e]at hkn;simp at hkn
  unfold vw at this;simp only[am,aR]at this;omega
 have:(n.op==8)=false:=by simpa using h8
 rw[this]at how;simp at how;have:n.ords=[]:=by
  simp_all
 rw[this];simp
end Go.AM
namespace Go.AM
open P
set_option maxRecDepth 8000
def io:av:=(.reg [i (.box 1 (e 0)),i (.box 5 (e 1)),i (.box 1 (v (.agg [.ai])))] [(2,l 0),(3,l 1),(4,l 2),(5,(v (.int .i64 0)))])
def g9:av:=(.seq (.reg [i (.load true 1 (e 2)),i (.call 86 [(l 0)] false)] [(6,l 1)]) (.seq (.reg [i (.bin .neq (e 6) (v (.int .i64 0)))] [(15,l 0)]) (.cond (e 15) (.seq (.reg [i (.build [.ai] []),i (.store 1 (e 4) (l 0))] [(5,e 6)]) .ret) .skip)))
def jL:av:=(.seq (.reg [i (.fld 0 (e 3)),i (.load false 1 (l 0)),i (.len (l 1)),i (.bin .lss (l 2) (v (.int .i64 1))),g (l 3) false (.fld 0 (e 3)),g (l 3) false (.load false 1 (l 4)),g (l 3) false (.len (l 5)),g (l 3) false (.bin .gtr (l 6) (v (.int .i64 3))),i (.pick (l 3) (v (.bool true)) (l 7))] [(16,l 8)]) (.cond (e 16) (.seq (.reg [i (.build [.ai] []),i (.store 1 (e 4) (l 0))] [(5,(v (.int .i64 240)))]) .ret) .skip))
def og:av:=(.reg [i (.load true 1 (e 2)),i (.build [.ai,.ai,.ai,.ai,.ai,.bool false,.bool false,.ai,.ai,.ai,.ai,.bool false] [(0,1,(l 0))]),i (.box 12 (l 1)),i (.box 1 (v (.nilp))),i (.store 1 (l 3) (l 2))] [(7,l 3)])
def nZ:av:=(.reg [i (.mkfn 182 [] [(e 7)])] [(8,l 0)])
def oq:av:=(.seq (.reg [i (.fld 0 (e 3)),i (.load false 1 (l 0)),i (.len (l 1))] [(17,l 1),(18,l 2),(19,(v (.int .i64 0)))]) (.blk 0 (.loop [5,9,10,11,12,20,21] lj)))
def jU:av:=(.reg [i (.load false 1 (e 7)),i (.fld 3 (e 3)),i (.load false 1 (l 1)),i (.fld 4 (e 3)),i (.load false 1 (l 3)),i (.build [.int .i64 0,.int .i64 0,.int .i64 0,.int .i64 0,.ai,.bool false,.ai,.ai,.ai,.ai,.ai,.int .i64 0] [(0,1,(v (.int .i64 8))),(10,1,(l 2)),(11,1,(l 4))]),i (.call 118 [(l 0),(l 5),(v (.ai))] false)] [])
def jB:av:=(.reg [i (.load false 1 (e 7)),i (.nilck (l 0)),i (.fld 10 (l 1)),i (.load true 1 (l 2)),i (.call 183 [(l 3)] false),i (.ext 0 (l 4)),i (.ext 1 (l 4))] [(13,l 5),(14,l 6)])
def jE:av:=(.seq (.reg [i (.load false 1 (e 7)),i (.nilck (l 0)),i (.fld 11 (l 1)),i (.load false 1 (l 2)),g (l 3) false (.mov (e 14)),g (l 3) false (.bin .neq (l 4) (v (.int .i64 0))),i (.pick (l 3) (v (.bool true)) (l 5)),g (l 6) false (.mov (e 13)),g (l 6) false (.len (l 7)),g (l 6) false (.fld 1 (e 3)),g (l 6) false (.load false 1 (l 9)),g (l 6) false (.len (l 10)),g (l 6) false (.bin .neq (l 8) (l 11)),i (.pick (l 6) (v (.bool true)) (l 12)),g (l 13) false (.mov (e 13)),g (l 13) false (.fld 2 (e 3)),g (l 13) false (.load false 1 (l 15)),g (l 13) false (.call 184 [(l 14),(l 16)] false),g (l 13) false (.una .not (l 17)),i (.pick (l 13) (v (.bool true)) (l 18))] [(22,l 19)]) (.cond (e 22) (.seq (.reg [i (.build [.ai] []),i (.store 1 (e 4) (l 0))] [(5,(v (.int .i64 240)))]) .ret) .skip))
def jz:av:=(.reg [i (.load false 1 (e 7)),i (.nilck (l 0)),i (.fld 10 (l 1)),i (.load true 1 (l 2)),i (.store 1 (e 4) (l 3))] [(5,(v (.int .i64 0)))])
def iO:av:=.ret
def rL:av:=.seq jz iO
def EO:av:=.seq jE rL
def Gs:av:=.seq jB EO
def sg:av:=.seq jU Gs
def nL:av:=.seq oq sg
def oh:av:=.seq nZ nL
def oz:av:=.seq og oh
def jH:av:=.seq jL oz
def ic:av:=.seq g9 jH
theorem kQ:abO=.seq io ic:=rfl
def kI:av:=(.reg [i (.box 1 (e 0)),i (.box 5 (e 1)),i (.box 1 (v (.agg [.ai])))] [(2,l 0),(3,l 1),(4,l 2),(5,(v (.bool false)))])
def kM:av:=(.seq (.reg [i (.fld 0 (e 3)),i (.load false 1 (l 0)),i (.len (l 1)),i (.bin .lss (l 2) (v (.int .i64 1))),g (l 3) false (.fld 0 (e 3)),g (l 3) false (.load false 1 (l 4)),g (l 3) false (.len (l 5)),g (l 3) false (.bin .gtr (l 6) (v (.int .i64 3))),i (.pick (l 3) (v (.bool true)) (l 7))] [(13,l 8)]) (.cond (e 13) (.seq (.reg [i (.build [.ai] []),i (.store 1 (e 4) (l 0))] [(5,(v (.bool false)))]) .ret) .skip))
def p9:av:=(.reg [i (.box 1 (v (.agg [.ai])))] [(6,l 0)])
def qf:av:=(.reg [] [(7,(v (.bool true)))])
def qi:av:=(.seq (.reg [i (.fld 0 (e 3)),i (.load false 1 (l 0)),i (.len (l 1))] [(14,l 1),(15,l 2),(16,(v (.int .i64 0)))]) (.blk 0 (.loop [8,9,10,11,17,18] pF)))
def iI:av:=(.reg [i (.fld 3 (e 3)),i (.load false 1 (l 0)),i (.fld 4 (e 3)),i (.load false 1 (l 2)),i (.build [.int .i64 0,.int .i64 0,.int .i64 0,.int .i64 0,.ai,.bool false,.ai,.ai,.ai,.ai,.ai,.int .i64 0] [(0,1,(v (.int .i64 8))),(10,1,(l 1)),(11,1,(l 3))]),i (.load true 1 (e 6)),i (.mkl 1 [(l 5)]),i (.call 233 [(e 7),(l 4),(l 6)] false),i (.ext 0 (l 7)),i (.ext 1 (l 7)),i (.store 1 (e 6) (l 8))] [(7,l 9)])
def iM:av:=(.seq (.reg [i (.una .not (e 7))] [(19,l 0)]) (.cond (e 19) (.seq (.reg [i (.build [.ai] []),i (.store 1 (e 4) (l 0))] [(5,(v (.bool false)))]) .ret) .skip))
def iK:av:=(.reg [i (.load true 1 (e 6)),i (.fld 0 (e 6)),i (.load false 1 (l 1)),i (.len (l 2)),i (.bin .sub (l 3) (v (.int .i64 1))),i (.call 232 [(l 0),(l 4)] false),i (.ext 0 (l 5)),i (.ext 1 (l 5))] [(12,l 6)])
def iJ:av:=(.seq (.reg [i (.len (e 12)),i (.fld 1 (e 3)),i (.load false 1 (l 1)),i (.len (l 2)),i (.bin .neq (l 0) (l 3)),g (l 4) false (.mov (e 12)),g (l 4) false (.fld 2 (e 3)),g (l 4) false (.load false 1 (l 6)),g (l 4) false (.call 186 [(l 5),(l 7)] false),g (l 4) false (.una .not (l 8)),i (.pick (l 4) (v (.bool true)) (l 9))] [(20,l 10)]) (.cond (e 20) (.seq (.reg [i (.build [.ai] []),i (.store 1 (e 4) (l 0))] [(5,(v (.bool false)))]) .ret) .skip))
def iL:av:=(.reg [i (.load true 1 (e 6)),i (.store 1 (e 4) (l 0))] [(5,(v (.bool true)))])
def g7:av:=.ret
def qx:av:=.seq iL g7
def CW:av:=.seq iJ qx
def CS:av:=.seq iK CW
def CX:av:=.seq iM CS
def qq:av:=.seq iI CX
def qc:av:=.seq qi qq
def qd:av:=.seq qf qc
def qt:av:=.seq p9 qd
def kK:av:=.seq kM qt
theorem oB:abM=.seq kI kK:=rfl
end Go.AM
namespace Go.AM
open P
set_option maxHeartbeats 16000000
set_option maxRecDepth 8000
attribute [local simp] aF br
structure xU where
 selects:List jJ
 names:List (List UInt8)
 ac:List Int
 order:List (Int×Bool)
 limit:Int
def xU.c(b:xU):List ap:=[.aa false (b.selects.map jJ.a),.aa false (b.names.map .str),.aa false (b.ac.map (.int .i64)),.aa false (b.order.map fU),.int .i64 b.limit]
def xU.a(b:xU):ap:=.agg b.c
instance:Nc (fun s=>ap.str s) 1 false:=⟨fun _=>rfl,fun _=>rfl⟩
instance:Nc ap.str 1 false:=⟨fun _=>rfl,fun _=>rfl⟩
instance:Fx ap.str:=⟨fun _ _ _ _ _ _=>rfl⟩
instance:Nc xU.a 5 true:=⟨fun _=>rfl,fun _=>rfl⟩
instance:Fx xU.a:=⟨fun fl top base σ n y=>by simp[xU.a,xU.c]⟩
structure GG (b:xU):Prop where
 sel:∀s∈b.selects,xZ s
 sl:b.selects.length≤8000
 nl:b.names.length≤8000
 kl:b.ac.length≤8000
 ol:b.order.length≤8000
def vm(c:List cM)(k:Nat)(s:jJ)(o:Option (List bB)):Option (List bB)⊕Unit:=
 match fh c s with
 |none=>.inr ()
 |some x=>.inl (if k=0 then some x else eQ kZ o (some x))
abbrev bL(c:List cM)(tv:ap)(bad:Bool):ap:=KG (.aa false (c.map cM.a)) .ai .ai .ai .ai (.bool false) (.bool false) .ai .ai .ai tv bad
abbrev qp(c:List cM)(b:xU)(tv:ap)(bad:Bool):aw:=[.arr 1 0 [eZ c],.arr 5 0 [b.a],.arr 1 0 [.agg [.ai]],.arr 12 0 [bL c tv bad],.arr 1 0 [.ptr 3 0 0 0]]
abbrev pN(c:List cM)(b:xU)(k:Nat):List ap:=[eZ c,b.a,.ptr 0 0 0 0,.ptr 1 0 0 0,.ptr 2 0 0 0,.any,.int .i64 0,.ptr 4 0 0 0,.fn I.qfq [] [.ptr 4 0 0 0],.any,.any,.any,.any,.any,.any,.bool false,.bool false,.aa false (b.selects.map jJ.a),.int .i64 b.selects.length,.int .i64 k,.any,.any,.any]
abbrev tvL(k:Nat)(o:Option (List bB)):ap:=if k=0 then .ai else Bt o
abbrev bdL(k:Nat)(o:Option (List bB)):Bool:=if k=0 then false else o.isNone
abbrev adn:ap:=.agg [.int .i64 7,.int .i64 0,.int .i64 0,.int .i64 0,.ai,.bool false,.ai,.ai,.ai,.ai,.ai,.int .i64 0]
theorem ZC(σ:aw):fz true false 0 σ 20 adn=kZ.a:=by
 have:kZ.a=.agg [.int .i64 7,.int .i64 0,.int .i64 0,.int .i64 0,.aa false [],.bool false,.aa false [],.aa false [],.aa false [],.aa false [],.aa false [],.int .i64 0]:=rfl;rw[this];simp
theorem K9(c:List cM)(b:xU)(t:ap)(ht:aC t=1)(J:aw):db code I.qfq [.int .i64 0,.agg [t],.ptr 4 0 0 0] (qp c b .ai false++J)=some (.tup [],qp c b t false++(J++[.arr 1 0 [.agg [t]]])):=by
 rw[dq abI rfl];simp[aoM,Xq,qp,ht]
theorem MM(c:List cM)(b:xU)(k:Nat)(hk:k≠0)(o x:Option (List bB))(hO:fB o)(hX:fB x)(hx:x.isSome)(sa:ap)(hsa:aC sa=9):∃J',db code I.qfq [.int .i64 k,.agg [Bt x],.ptr 4 0 0 0] (qp c b (Bt o) o.isNone++[.arr 9 0 [sa],.arr 1 0 [.agg [Bt x]]])=some (.tup [],qp c b (Bt (eQ kZ o x)) (eQ kZ o x).isNone++J'):=by
 rw[dq abI rfl];have k1:((k:Int)==0)=false:=by simp;omega
 have hov:=Fb 3 (.aa false (c.map cM.a)) .ai .ai .ai .ai (.bool false) (.bool false) .ai .ai .ai adn kZ o x
  (qp c b (Bt o) (o.isNone ||x.isNone)++[.arr 9 0 [sa],.arr 1 0 [.agg [Bt x]],.arr 1 0 [.agg [Bt x]]]) rfl ZC ⟨rfl,rfl⟩ qL.1 qL.2 hO hX
 have hx0:x.isNone=false:=by cases x<;>simp_all
 rw[hx0,pw]at hov;refine⟨[.arr 9 0 [sa],.arr 1 0 [.agg [Bt x]],.arr 1 0 [.agg [Bt x]],.arr 12 0 [adn],.arr 1 0 [.agg [Bt (eQ kZ o x)]]],?_⟩;simp only[qp,bL,Bt,bV,bN,List.set]at hov ⊢;generalize eQ kZ o x=o' at *;generalize (x.getD []).map bB.a=xv at *;generalize (o.getD []).map bB.a=tv at *;generalize (o'.getD []).map bB.a=tv' at *;generalize o.isNone=bad at *;generalize o'.isNone=bad' at *;simp[aoM,Xq,k1,hov]
theorem Sm(c:List cM)(hc:wl c)(b:xU)(k:Nat)(s:jJ)(hs:xZ s)(o:Option (List bB))(hk:k<b.selects.length)(hl:b.selects.length≤8000)(hy:b.selects[k]?=some s)(hO:k≠0→fB o) :
  match vm c k s o with
  |.inl o'=>dE 5 [5,9,10,11,12,20,21] lj (run code lj ⟨pN c b k,qp c b (tvL k o) (bdL k o)⟩)=cc code 5 [5,9,10,11,12,20,21] lj ⟨pN c b (k+1),qp c b (Bt o') o'.isNone⟩
  |.inr _=>∃q,dE 5 [5,9,10,11,12,20,21] lj (run code lj ⟨pN c b k,qp c b (tvL k o) (bdL k o)⟩)=some (.ret,q)∧QSl q:=by
 obtain⟨hsv,hX⟩:=Bd c hc s hs;have hg:∀h:k<b.selects.length,b.selects[k]'h=s:=fun h=>(ak.1 hy).2;have n3:aC s.a=9∧isAgg s.a=true:=⟨rfl,rfl⟩;have n1:∀fl top base σ m,fz fl top base σ (m+3) s.a=s.a:=fun fl top base σ m=>Fx.fx fl top base σ m s;have nb1:∀fl top base σ m,fz fl top base σ (m+3) b.a=b.a:=fun fl top base σ m=>Fx.fx fl top base σ m b;have nb3:aC b.a=5:=rfl;unfold vm;unfold JV at hsv;cases hx:fh c s with
 |none=>
  rw[hx]at hsv;simp at hsv;simp only[tvL,bdL];exact⟨_,by simp[lj,pN,qp,hk,hy,hg,n1,n3,hsv];rfl,rfl,rfl,rfl⟩
 |some x=>
  rw[hx]at hsv hX;simp at hsv;by_cases k0:k=0
  ·subst k0;simp only[bU,tvL,bdL];have hgr:=K9 c b (Bt (some x)) rfl [.arr 9 0 [s.a],.arr 1 0 [.agg [Bt (some x)]]];have w1:IntKind.i64.wrap 1=1:=rfl;simp only[qp,bL,Bt,bV,bN,dl]at hgr ⊢;generalize x.map bB.a=xv at *;simp[lj,pN,hk,hy,hg,n1,n3,nb1,nb3,hsv,hgr,w1,aT,aW,bG,dp]
  obtain⟨J',hgr⟩:=MM c b k k0 o (some x) (hO k0) hX rfl s.a rfl;have w2:IntKind.i64.wrap ((k:Int)+1)=(k:Int)+1:=tI (by omega) (by omega);simp only[if_neg k0,tvL,bdL];simp only[qp,bL,Bt,bV,bN,dl]at hgr ⊢;generalize eQ kZ o (some x)=o' at *;generalize x.map bB.a=xv at *;generalize (o.getD []).map bB.a=tv at *;generalize (o'.getD []).map bB.a=tv' at *;generalize o.isNone=bad at *;generalize o'.isNone=bad' at *;cases J'<;>simp[lj,pN,hk,hy,hg,n1,n3,nb1,nb3,hsv,hgr,w2,aT,aW,bG,dp]
end Go.AM
namespace Go.AM
open P
set_option maxHeartbeats 16000000
set_option maxRecDepth 8000
attribute [local simp] aF br
def qr(c:List cM)(l:List jJ):Option (List bB):=match dm (vm c) l 0 none with
 |.inl o=>o
 |.inr _=>none
def FK(o:Option (List bB)):List Int:=(o.bind fun w=>kd w w.length).getD []
theorem SF{n:bB}{ts:List mO}{w:List bB}(h:fK n ts=some w):(kj w).isSome:=by
 unfold fK at h;split at h
 ·split at h
  ·rename_i hl;cases h;exact hl
  cases h
 cases h
theorem rG{n:bB}{o:Option (List bB)}{w:List bB}(h:cT n o=some w):(kj w).isSome:=by
 unfold cT at h;obtain⟨t,_,h⟩:=aA.1 h;exact SF h
theorem UC(o:Option (List bB))(hO:fB o)(hl:∀w,o=some w→(kj w).isSome):bI I.qen [.agg [Bt o]]=some (.tup [.aa false (bE (FK o)),.int .i64 (if o.isSome then 0 else 230)]):=by
 cases o with
 |none=>
  have h:=KA 1 [.arr 1 0 [.agg [.aa false (([]:List bB).map bB.a)]]] (.inl ⟨rfl,_,rfl⟩) (fun x hx base σ m=>by simp at hx;rw[hx];simp) false [] (fun n hn=>by simp at hn);rw[FO]at h;obtain⟨k,τ,h⟩:=h;rw[aQ abL rfl];simp at h;simp[aoV,Vo,FK,h]
 |some w=>
  have hlw:=hl w rfl;obtain⟨s,hs⟩:=dF.1 hlw;have hI:=(mV w).2 s hs;obtain⟨l1,l2⟩:=pi hlw;have hk:=SV false w (fun n hn=>(hO.own n hn).fit) s hs (fun a ha=>by
   obtain⟨i,hi,rfl⟩:=bP.1 ha;obtain⟨r,h1,h2,_⟩:=hI.at' i (by rw[←hI.kl];exact hi);rw[aq hi]at h1;cases h1;exact wd h2)
  obtain⟨r,h1,h2,_⟩:=hI.at' (w.length-1) (by omega);rw[show w.length-1+1=w.length by omega]at h2;have h3:s.1.getD (w.length-1) WT=r:=by rw[aE,h1];rfl
  rw[h3]at hk;have h4:FK (some w)=r.l:=by unfold FK;simp[h2]
  rw[h4];exact hk
theorem Vs(c:List cM)(hc:wl c)(b:xU)(hb:GG b)(h0:b.selects≠[]):match dm (vm c) b.selects 0 none with
  |.inl o=>fB o∧cc code 5 [5,9,10,11,12,20,21] lj ⟨pN c b 0,qp c b .ai false⟩=some (.ext 0,⟨(pN c b b.selects.length).set 20 (.bool false),qp c b (Bt o) o.isNone⟩)
  |.inr _=>∃q,cc code 5 [5,9,10,11,12,20,21] lj ⟨pN c b 0,qp c b .ai false⟩=some (.ret,q)∧QSl q:=by
 have hn0:b.selects.length≠0:=fun e=>h0 (lS.1 e);have key:=eL (base:=5) (clr:=[5,9,10,11,12,20,21]) (b:=lj) b.selects (fun k o=>⟨pN c b k,qp c b (tvL k o) (bdL k o)⟩) (fun k o=>k≠0→fB o) (vm c)
  (fun o=>(.ext 0,⟨(pN c b b.selects.length).set 20 (.bool false),qp c b (Bt o) o.isNone⟩)) (fun _ o=>∃q,o=(.ret,q)∧QSl q)
  (fun k s o hk hy hI=>by
   have hs:=hb.sel s (aD hy);have h:=Sm c hc b k s hs o hk hb.sl hy hI;have hX:=(Bd c hc s hs).2;have hown:∀o',vm c k s o=.inl o'→fB o':=fun o' h=>by
    unfold vm at h;cases hx:fh c s with
    |none=>rw[hx]at h;cases h
    |some x=>
     rw[hx]at h hX;by_cases k0:k=0
     ·simp only[k0,bU]at h;cases h;exact hX
     simp only[if_neg k0]at h;cases h;exact rp qL.1 qL.2 (hI k0) hX
   revert h hown;cases vm c k s o with
   |inl o'=>
    intro h hown;refine⟨?_,fun _=>hown o' rfl⟩;simp only[tvL,bdL,if_neg (Nat.succ_ne_zero k)]at h ⊢;exact h
   |inr r=>
    rintro⟨q,h,hq⟩ _;exact⟨_,h,q,rfl,hq⟩)
  (fun o _=>by
   simp only[tvL,bdL,if_neg hn0];simp[pN,qp,lj]) none (fun h=>absurd rfl h)
 revert key;cases dm (vm c) b.selects 0 none with
 |inl o=>exact fun h=>⟨h.1 hn0,h.2⟩
 |inr r=>
  rintro⟨o,h,q,rfl,hq⟩;exact⟨q,h,hq⟩
def tt(c:List cM)(b:xU):Option (List bB):=
 if b.selects.length<1∨3<b.selects.length then none
 else if (cT (iZ b.order b.limit) (qr c b.selects)).isSome∧(FK (cT (iZ b.order b.limit) (qr c b.selects))).length=b.names.length∧FK (cT (iZ b.order b.limit) (qr c b.selects))=b.ac then cT (iZ b.order b.limit) (qr c b.selects) else none
abbrev aj0(o:List (Int×Bool))(l:Int):ap:=.agg [.int .i64 8,.int .i64 0,.int .i64 0,.int .i64 0,.ai,.bool false,.ai,.ai,.ai,.ai,.aa false (o.map fU),.int .i64 l]
theorem Yv(o:List (Int×Bool))(l:Int)(σ:aw):fz true false 0 σ 20 (aj0 o l)=(iZ o l).a:=by
 have:(iZ o l).a=.agg [.int .i64 8,.int .i64 0,.int .i64 0,.int .i64 0,.aa false [],.bool false,.aa false [],.aa false [],.aa false [],.aa false [],.aa false (o.map fU),.int .i64 l]:=rfl;rw[this];simp
theorem VP(c:List cM)(b:xU)(hb:GG b)(o:Option (List bB))(hO:fB o):∃q,run code sg ⟨(pN c b b.selects.length).set 20 (.bool false),qp c b (Bt o) o.isNone⟩=some (.ret,q)∧q.env[4]?=some (.ptr 2 0 0 0) ∧
  (if (cT (iZ b.order b.limit) o).isSome∧(FK (cT (iZ b.order b.limit) o)).length=b.names.length∧FK (cT (iZ b.order b.limit) o)=b.ac then q.st[2]?=some (.arr 1 0 [.agg [Bt (cT (iZ b.order b.limit) o)]])∧q.env[5]?=some (.int .i64 0)
   else q.st[2]?=some (.arr 1 0 [.agg [.ai]])∧q.env[5]?=some (.int .i64 240)):=by
 have hon:=Dt b.limit hb.ol;have hO1:=fS hon.1 hon.2 hO;have hov:=BG 3 (.aa false (c.map cM.a)) .ai .ai .ai .ai (.bool false) (.bool false) .ai .ai .ai (aj0 b.order b.limit) (iZ b.order b.limit) o (qp c b (Bt o) o.isNone) rfl (Yv b.order b.limit) ⟨rfl,rfl⟩ hon.1 hon.2 hO;have hkv:=UC (cT (iZ b.order b.limit) o) hO1 (fun w h=>rG h);have hlen:(FK (cT (iZ b.order b.limit) o)).length≤16:=by
  cases h:cT (iZ b.order b.limit) o with
  |none=>simp[FK]
  |some w=>
   unfold FK;simp only[dk];cases hk:kd w w.length with
   |none=>simp
   |some r=>exact wd hk
 have heq:=Np false false (FK (cT (iZ b.order b.limit) o)) b.ac (by omega);have hba:b.a=.agg b.c:=rfl;have hbc:b.c=[.aa false (b.selects.map jJ.a),.aa false (b.names.map .str),.aa false (b.ac.map (.int .i64)),.aa false (b.order.map fU),.int .i64 b.limit]:=rfl;have e6:sg=.seq jU (.seq jB (.seq jE rL)):=rfl;have e9:rL=.seq jz iO:=rfl;rw[e6,e9];generalize cT (iZ b.order b.limit) o=o1 at *;generalize FK o1=ks at *;simp only[qp,bL,pN,Bt,hba,hbc,List.set,bV,bN]at hov hkv ⊢;have hne:(((ks.length:Int) != (b.names.length:Int))=false∧ks.length=b.names.length)∨(((ks.length:Int) != (b.names.length:Int))=true∧¬ks.length=b.names.length):=by
  by_cases h:ks.length=b.names.length
  ·exact .inl ⟨by simp;omega,h⟩
  exact .inr ⟨by simp;omega,h⟩
 have n1:aC (.aa false ((o1.getD []).map bB.a))=1:=rfl;cases o1 with
 |none=>
  simp only[Option.isNone_none,Option.isSome_none,Option.getD_none,cE,aH,false_and,bQ]at *;generalize (o.getD []).map bB.a=tv at *;generalize o.isNone=bad at *;exact⟨_,by simp[jU,jB,jE,jz,iO,hov,hkv];rfl,rfl,rfl,rfl⟩
 |some w=>
  simp only[Option.isNone_some,Option.isSome_some,dl,true_and,bU]at *;generalize (o.getD []).map bB.a=tv at *;generalize o.isNone=bad at *;generalize w.map bB.a=wv at *;rcases hne with⟨e1,e2⟩|⟨e1,e2⟩
  ·by_cases e3:ks=b.ac
   ·simp only[if_pos (And.intro e2 e3)];have h3:decide (ks=b.ac)=true:=by simpa using e3
    rw[h3]at heq;exact⟨_,by simp[jU,jB,jE,jz,iO,hov,hkv,e1,heq];rfl,rfl,rfl,rfl⟩
   have hno:¬(ks.length=b.names.length∧ks=b.ac):=fun h=>e3 h.2;simp only[if_neg hno];have h3:decide (ks=b.ac)=false:=by simpa using e3
   rw[h3]at heq;exact⟨_,by simp[jU,jB,jE,jz,iO,hov,hkv,e1,heq];rfl,rfl,rfl,rfl⟩
  have hno:¬(ks.length=b.names.length∧ks=b.ac):=fun h=>e2 h.1;simp only[if_neg hno];exact⟨_,by simp[jU,jB,jE,jz,iO,hov,hkv,e1];rfl,rfl,rfl,rfl⟩
end Go.AM
namespace Go.AM
open P
set_option maxHeartbeats 16000000
set_option maxRecDepth 8000
attribute [local simp] aF br
theorem SP(c:List cM)(b:xU)(e:Int)(he:e≠0)(hk:bI I.qcu [eZ c]=some (.int .i64 e)):bI I.qfp [eZ c,b.a]=some (.tup [.agg [.aa false []],.int .i64 e]):=by
 rw[aQ aaL rfl];have nb1:∀fl top base σ m,fz fl top base σ (m+3) b.a=b.a:=fun fl top base σ m=>Fx.fx fl top base σ m b;have nb3:aC b.a=5:=rfl;have he1:(e != 0)=true:=by simpa using he
 simp[anZ,kQ,io,ic,g9,nb1,nb3,hk,he1]
theorem Zn(c:List cM)(hc:wl c)(b:xU)(hb:GG b):bI I.qfp [eZ c,b.a]=some (JV 240 (tt c b)):=by
 rw[aQ aaL rfl];have hk:=hc.chk;have hba:b.a=.agg b.c:=rfl;have hbc:b.c=[.aa false (b.selects.map jJ.a),.aa false (b.names.map .str),.aa false (b.ac.map (.int .i64)),.aa false (b.order.map fU),.int .i64 b.limit]:=rfl;unfold tt JV;by_cases hl:b.selects.length<1∨3<b.selects.length
 ·simp only[if_pos hl,hba,hbc];by_cases h1:b.selects.length<1
  ·have h1':(b.selects.length:Int)<1:=by omega
   simp[anZ,kQ,io,ic,g9,jH,jL,hk,h1']
  have h1':¬(b.selects.length:Int)<1:=by omega
  have h2':(3:Int)<(b.selects.length:Int):=by omega
  simp[anZ,kQ,io,ic,g9,jH,jL,hk,h1',h2']
 simp only[if_neg hl];have h1':¬(b.selects.length:Int)<1:=by omega
 have h2':¬(3:Int)<(b.selects.length:Int):=by omega
 have h0:b.selects≠[]:=fun e=>by rw[e]at hl;simp at hl
 have loop:=Vs c hc b hb h0;unfold qr;revert loop;cases hf:dm (vm c) b.selects 0 none with
 |inr r=>
  rintro⟨q,loop,q1,q2,q3⟩;simp only[pN,qp,bL,aJ,hba,hbc]at loop ⊢;simp[anZ,kQ,io,ic,g9,jH,jL,oz,og,oh,nZ,nL,oq,hk,h1',h2',loop,q1,q2,q3,cT]
 |inl o=>
  rintro⟨hO,loop⟩;obtain⟨q,h6,q1,q2⟩:=VP c b hb o hO;simp only;generalize cT (iZ b.order b.limit) o=o1 at *;have hz:aC (Bt o1)=1:=rfl;by_cases hcnd:o1.isSome∧(FK o1).length=b.names.length∧FK o1=b.ac
  ·simp only[if_pos hcnd]at q2 ⊢;obtain⟨q2,q3⟩:=q2;simp only[pN,qp,bL,aJ,hba,hbc,List.set,Bt,hcnd.1,bU]at loop h6 q2 ⊢;generalize (o.getD []).map bB.a=tv at *;generalize (o1.getD []).map bB.a=tv1 at *;generalize o.isNone=bad at *;simp[anZ,kQ,io,ic,g9,jH,jL,oz,og,oh,nZ,nL,oq,hk,h1',h2',loop,h6,q1,q2,q3]
  simp only[if_neg hcnd]at q2 ⊢;obtain⟨q2,q3⟩:=q2;simp only[pN,qp,bL,aJ,hba,hbc,List.set,Bt]at loop h6 ⊢;generalize (o.getD []).map bB.a=tv at *;generalize o.isNone=bad at *;simp[anZ,kQ,io,ic,g9,jH,jL,oz,og,oh,nZ,nL,oq,hk,h1',h2',loop,h6,q1,q2,q3]
end Go.AM
namespace Go.AM
open P
set_option maxHeartbeats 16000000
set_option maxRecDepth 8000
attribute [local simp] aF br
structure Yo (o:Option (List bB)) (v:ap):Prop where
 is:∀w,o=some w→v=.aa false (w.map bB.a)
 fz:∀b τ m,fz false true b τ (m+3) v=v
 nc:aC v=1
theorem TP(o:Option (List bB)):Yo o (Bt o):=⟨fun w h=>by subst h;rfl,fun b τ m=>by simp,rfl⟩
theorem Y3(o:Option (List bB)):Yo o (kL o):=⟨fun w h=>by subst h;rfl,wA o,lh o⟩
theorem Zg{n:bB}{x4 x6 x7 x8 x9 x10:ap}(h:Wr n x4 x6 x7 x8 x9 x10)(σ:aw)(hσ:AO σ σ)(o:Option (List bB))(v:ap)(hv:Yo o v)(hO:fB o) :
  db code I.qcs [.bool o.isSome,tf n x4 x6 x7 x8 x9 x10 0 0,.lst [.agg [v]]] σ=some (.tup [.agg [kL (cT n o)],.bool (cT n o).isSome],σ):=by
 cases o with
 |none=>exact xd σ σ hσ _ _ rfl
 |some t=>rw[hv.is t rfl];exact yV h σ σ hσ hσ (some t) hO
theorem XL{n:bB}{x4 x6 x7 x8 x9 x10:ap}(h:Wr n x4 x6 x7 x8 x9 x10)(σ:aw)(hσ:AO σ σ)(o x:Option (List bB))(v vx:ap)(hv:Yo o v)(hx:Yo x vx)(hO:fB o)(hX:fB x) :
  db code I.qcs [.bool (o.isSome&&x.isSome),tf n x4 x6 x7 x8 x9 x10 0 0,.lst [.agg [v],.agg [vx]]] σ=some (.tup [.agg [kL (eQ n o x)],.bool (eQ n o x).isSome],σ):=by
 cases o with
 |none=>exact xd σ σ hσ _ _ rfl
 |some t=>
  cases x with
  |none=>exact xd σ σ hσ _ _ rfl
  |some u=>rw[hv.is t rfl,hx.is u rfl];exact WD h σ σ hσ hσ (some t) (some u) hO hX
abbrev kV(c:List cM)(b:xU)(v:ap):aw:=[.arr 1 0 [eZ c],.arr 5 0 [b.a],.arr 1 0 [.agg [.ai]],.arr 1 0 [.agg [v]]]
abbrev oo(c:List cM)(b:xU)(ok:Bool)(k:Nat):List ap:=[eZ c,b.a,.ptr 0 0 0 0,.ptr 1 0 0 0,.ptr 2 0 0 0,.bool false,.ptr 3 0 0 0,.bool ok,.any,.any,.any,.any,.any,.bool false,.aa false (b.selects.map jJ.a),.int .i64 b.selects.length,.int .i64 k,.any,.any,.any,.any]
theorem LG(c:List cM)(hc:∀tb∈c,tb.af.length≤8000)(b:xU)(k:Nat)(s:jJ)(hs:xZ s)(o:Option (List bB))(v:ap)(hk:k<b.selects.length)(hl:b.selects.length≤8000)(hy:b.selects[k]?=some s)(hO:k≠0→fB o∧Yo o v)(hX:fB (fh c s)) :
  dE 4 [8,9,10,11,17,18] pF (run code pF ⟨oo c b (if k=0 then true else o.isSome) k,kV c b (if k=0 then .ai else v)⟩) =
   cc code 4 [8,9,10,11,17,18] pF ⟨oo c b (if k=0 then fh c s else eQ kZ o (fh c s)).isSome (k+1),kV c b (if k=0 then Bt (fh c s) else kL (eQ kZ o (fh c s)))⟩:=by
 have hsv:=EH c hc s hs;have hg:∀h:k<b.selects.length,b.selects[k]'h=s:=fun h=>(ak.1 hy).2;have n3:aC s.a=9∧isAgg s.a=true:=⟨rfl,rfl⟩;have n1:∀fl top base σ m,fz fl top base σ (m+3) s.a=s.a:=fun fl top base σ m=>Fx.fx fl top base σ m s;have nb1:∀fl top base σ m,fz fl top base σ (m+3) b.a=b.a:=fun fl top base σ m=>Fx.fx fl top base σ m b;have nb3:aC b.a=5:=rfl;unfold GF at hsv;generalize fh c s=x at *;by_cases k0:k=0
 ·subst k0;simp only[bU];have w1:IntKind.i64.wrap 1=1:=rfl;simp only[kV,Bt]at *;generalize (x.getD []).map bB.a=xv at *;generalize x.isSome=bx at *;simp[pF,oo,hk,hy,hg,n1,n3,nb1,nb3,hsv,w1,aT,aW,bG,dp]
 simp only[if_neg k0];obtain⟨hO,hv⟩:=hO k0;have w2:IntKind.i64.wrap ((k:Int)+1)=(k:Int)+1:=tI (by omega) (by omega);have k1:((k:Int)==0)=false:=by simp;omega
 have hm:=XL acx [.arr 1 0 [eZ c],.arr 5 0 [b.a],.arr 1 0 [.agg [.ai]],.arr 1 0 [.agg [v]],.arr 9 0 [s.a],.arr 1 0 [.agg [Bt x]]] (fun τ bb _=>by simp[aW,bG,dp,nb1,nb3,n1,n3,hv.fz,hv.nc]) o x v (Bt x) hv (TP x) hO hX;have hvz:=hv.fz;have hvn:=hv.nc;have hv2:=wA (eQ kZ o x);have hv3:=lh (eQ kZ o x);simp only[kV,tf,show kZ.op=7 from rfl,show kZ.tab=0 from rfl,show kZ.left=false from rfl,show kZ.limit=0 from rfl,Bt]at *;generalize kL (eQ kZ o x)=v2 at *;generalize (eQ kZ o x).isSome=b2 at *;generalize (x.getD []).map bB.a=xv at *;generalize o.isSome=bo at *;generalize x.isSome=bx at *;cases bo<;>cases bx<;>simp only[pa,gK,gg,fv,cG]at hm<;>simp[pF,oo,hk,hy,hg,n1,n3,nb1,nb3,hsv,hm,w2,k1,hvz,hvn,hv2,hv3,aT,aW,bG,dp]
end Go.AM
namespace Go.AM
open P
set_option maxHeartbeats 16000000
set_option maxRecDepth 8000
attribute [local simp] aF br
def JH(c:List cM)(k:Nat)(s:jJ)(o:Option (List bB)):Option (List bB):=if k=0 then fh c s else eQ kZ o (fh c s)
def FZ(c:List cM):List jJ→Nat→Option (List bB)→Option (List bB)
 |[],_,o=>o
 |s::l,k,o=>FZ c l (k+1) (JH c k s o)
theorem MJ(c:List cM):∀(l:List jJ) (k:Nat),FZ c l (k+1) none=none
 |[],_=>rfl
 |s::l,k=>by
  rw[FZ];have:JH c (k+1) s none=none:=by unfold JH;rw[if_neg (by omega)];rfl
  rw[this];exact MJ c l (k+1)
theorem Nz(c:List cM):∀(l:List jJ) (k:Nat) (o:Option (List bB)),(k=0→l≠[])→FZ c l k o=match dm (vm c) l k o with
  |.inl o=>o
  |.inr _=>none
 |[],k,o,_=>by rw[FZ,dm]
 |s::l,k,o,_=>by
  rw[FZ,dm];unfold vm JH;cases fh c s with
  |none=>
   have:(if k=0 then (none:Option (List bB)) else eQ kZ o none)=none:=by
    split
    ·rfl
    cases o<;>rfl
   rw[this];exact MJ c l k
  |some x=>exact Nz c l (k+1) _ (fun h=>by omega)
theorem Si{c:List cM}(hc:∀tb∈c,tb.af.length≤8000){s:jJ}(hs:xZ s):fB (jj c s):=by
 unfold jj;split
 ·exact nP
 have key:∀(l:List (JX×Int)) (o:Option (List bB)),(∀p∈l,p.1∈s.joins)→fB o→fB (l.foldl (fun o p=>eQ (fW p.1) o (eA c p.2)) o):=by
  intro l;induction l with
  |nil=>intro o _ h;exact h
  |cons p l ih=>
   intro o hp h;rw[dh];have hj:=vR (hs.ons p.1 (hp p (by simp)));exact ih _ (fun q hq=>hp q (bq _ hq)) (rp hj.1 hj.2 h (nB hc p.2))
 exact key _ _ (fun p hp=>(List.of_mem_zip hp).1) (nB hc _)
theorem D5{c:List cM}(hc:∀tb∈c,tb.af.length≤8000){s:jJ}(hs:xZ s):fB (fh c s):=KU hs (K6 hs (K7 hs (Si hc hs)))
theorem Nf(c:List cM)(hc:∀tb∈c,tb.af.length≤8000)(b:xU)(hb:GG b)(h0:b.selects≠[]):∃v,fB (qr c b.selects)∧Yo (qr c b.selects) v ∧
  cc code 4 [8,9,10,11,17,18] pF ⟨oo c b true 0,kV c b .ai⟩=some (.ext 0,⟨(oo c b (qr c b.selects).isSome b.selects.length).set 17 (.bool false),kV c b v⟩):=by
 have hn0:b.selects.length≠0:=fun e=>h0 (lS.1 e);have key:=eL (ρ:=Empty) (base:=4) (clr:=[8,9,10,11,17,18]) (b:=pF) b.selects (fun k (p:Option (List bB)×ap)=>⟨oo c b (if k=0 then true else p.1.isSome) k,kV c b (if k=0 then .ai else p.2)⟩) (fun k p=>k≠0→fB p.1∧Yo p.1 p.2)
  (fun k s p=>.inl (JH c k s p.1,if k=0 then Bt (fh c s) else kL (eQ kZ p.1 (fh c s))))
  (fun p=>(.ext 0,⟨(oo c b p.1.isSome b.selects.length).set 17 (.bool false),kV c b p.2⟩)) (fun r _=>r.elim)
  (fun k s p hk hy hI=>by
   have hs:=hb.sel s (aD hy);have hX:=D5 hc hs;have h:=LG c hc b k s hs p.1 p.2 hk hb.sl hy hI hX;refine⟨?_,fun _=>?_⟩
   ·simp only[if_neg (Nat.succ_ne_zero k)];exact h
   unfold JH;by_cases k0:k=0
   ·simp only[if_pos k0];exact⟨hX,TP _⟩
   simp only[if_neg k0];exact⟨rp qL.1 qL.2 (hI k0).1 hX,Y3 _⟩)
  (fun p _=>by
   simp only[if_neg hn0];simp[oo,kV,pF]) (none,.ai) (fun h=>absurd rfl h)
 have hfst:∀(l:List jJ) (k:Nat) (p p':Option (List bB)×ap),dm (ρ:=Empty) (fun k s p=>.inl (JH c k s p.1,if k=0 then Bt (fh c s) else kL (eQ kZ p.1 (fh c s)))) l k p=.inl p'→p'.1=FZ c l k p.1:=by
  intro l;induction l with
  |nil=>intro k p p' h;rw[dm]at h;cases h;rfl
  |cons s l ih=>
   intro k p p' h;rw[dm]at h;rw[FZ];exact ih _ _ _ h
 revert key;cases hf:dm (ρ:=Empty) (fun k s p=>.inl (JH c k s p.1,if k=0 then Bt (fh c s) else kL (eQ kZ p.1 (fh c s)))) b.selects 0 (none,ap.ai) with
 |inr r=>exact r.elim
 |inl p=>
  rintro⟨hI,key⟩;have h1:=hfst _ _ _ _ hf;have h2:p.1=qr c b.selects:=by
   rw[h1,Nz c b.selects 0 none (fun _=>h0)];unfold qr;rfl
  rw[h2]at hI key;obtain⟨i1,i2⟩:=hI hn0;exact⟨p.2,i1,i2,by simpa using key⟩
theorem NJ(c:List cM)(b:xU)(hb:GG b)(o:Option (List bB))(v:ap)(hO:fB o)(hv:Yo o v):∃q,run code qq ⟨(oo c b o.isSome b.selects.length).set 17 (.bool false),kV c b v⟩=some (.ret,q)∧q.env[4]?=some (.ptr 2 0 0 0) ∧
  (if (cT (iZ b.order b.limit) o).isSome∧(FK (cT (iZ b.order b.limit) o)).length=b.names.length∧FK (cT (iZ b.order b.limit) o)=b.ac then q.st[2]?=some (.arr 1 0 [.agg [Bt (cT (iZ b.order b.limit) o)]])∧q.env[5]?=some (.bool true)
   else q.st[2]?=some (.arr 1 0 [.agg [.ai]])∧q.env[5]?=some (.bool false)):=by
 have hon:=Dt b.limit hb.ol;have hO1:=fS hon.1 hon.2 hO;have nb1:∀fl top base σ m,fz fl top base σ (m+3) b.a=b.a:=fun fl top base σ m=>Fx.fx fl top base σ m b;have nb3:aC b.a=5:=rfl;have hm:=Zg (adq b.limit hb.ol) (kV c b v) (fun τ bb _=>by simp[kV,aW,bG,dp,nb1,nb3,hv.fz,hv.nc]) o v hv hO;have hlook:∀w,cT (iZ b.order b.limit) o=some w→(kj w).isSome:=fun w h=>rG h;have hba:b.a=.agg b.c:=rfl;have hbc:b.c=[.aa false (b.selects.map jJ.a),.aa false (b.names.map .str),.aa false (b.ac.map (.int .i64)),.aa false (b.order.map fU),.int .i64 b.limit]:=rfl;have e5:qq=.seq iI (.seq iM (.seq iK (.seq iJ qx))):=rfl;have e9:qx=.seq iL g7:=rfl;rw[e5,e9];have hvn:=hv.nc;generalize cT (iZ b.order b.limit) o=o1 at *;cases o1 with
 |none=>
  have hno:¬((none:Option (List bB)).isSome∧(FK none).length=b.names.length∧FK none=b.ac):=fun h=>by cases h.1
  simp only[if_neg hno];simp only[kV,oo,hba,hbc,List.set,tf,show (iZ b.order b.limit).op=8 from rfl,show (iZ b.order b.limit).tab=0 from rfl,show (iZ b.order b.limit).left=false from rfl,show (iZ b.order b.limit).limit=b.limit from rfl,kL,Option.isSome_none]at hm ⊢;generalize o.isSome=bo at *;exact⟨_,by simp[iI,iM,iK,iJ,iL,g7,hm,hvn];rfl,rfl,rfl,rfl⟩
 |some w=>
  have hlw:=hlook w rfl;obtain⟨l1,l2⟩:=pi hlw;obtain⟨r,hr⟩:∃r,kd w w.length=some r:=by
   obtain⟨s,hs⟩:=dF.1 hlw;have hI:=(mV w).2 s hs;obtain⟨r,_,h2,_⟩:=hI.at' (w.length-1) (by omega);rw[show w.length-1+1=w.length by omega]at h2;exact⟨_,h2⟩
  have hko:FK (some w)=r:=by unfold FK;simp[hr]
  have hrl:=wd hr;obtain⟨R,k1,_,k2⟩:=Hv w (by unfold aV;omega) hO1.ns false w.length (kV c b (kL (some w))) (fun τ bb _=>by simp[kV,aW,bG,dp,nb1,nb3,wA]) (aB _);obtain⟨bk,rfl⟩:∃bk,R=.aa bk (bE r):=(k2 r hr).resolve_left fun h=>Fe _ hr h.2;have heq:=vN bk false r b.ac (by omega);rw[hko];have w1:IntKind.i64.wrap ((w.length:Int)-1)=(w.length:Int)-1:=tI (by omega) (by omega);rw[hr]at k1;have hne:(((r.length:Int) != (b.names.length:Int))=false∧r.length=b.names.length)∨(((r.length:Int) != (b.names.length:Int))=true∧¬r.length=b.names.length):=by
   by_cases h:r.length=b.names.length
   ·exact .inl ⟨by simp;omega,h⟩
   exact .inr ⟨by simp;omega,h⟩
  have hwl:(w.map bB.a).length=w.length:=by simp
  simp only[kV,oo,hba,hbc,List.set,tf,show (iZ b.order b.limit).op=8 from rfl,show (iZ b.order b.limit).tab=0 from rfl,show (iZ b.order b.limit).left=false from rfl,show (iZ b.order b.limit).limit=b.limit from rfl,kL,Bt,dl,Option.isSome_some,true_and,TA]at hm k1 ⊢;generalize w.map bB.a=wv at *;generalize o.isSome=bo at *;rcases hne with⟨e1,e2⟩|⟨e1,e2⟩
  ·by_cases e3:r=b.ac
   ·simp only[if_pos (And.intro e2 e3)];have h3:decide (r=b.ac)=true:=by simpa using e3
    rw[h3]at heq;exact⟨_,by simp[iI,iM,iK,iJ,iL,g7,hm,hvn,hwl,w1,k1,e1,heq];rfl,rfl,rfl,rfl⟩
   have hno:¬(r.length=b.names.length∧r=b.ac):=fun h=>e3 h.2;simp only[if_neg hno];have h3:decide (r=b.ac)=false:=by simpa using e3
   rw[h3]at heq;exact⟨_,by simp[iI,iM,iK,iJ,iL,g7,hm,hvn,hwl,w1,k1,e1,heq];rfl,rfl,rfl,rfl⟩
  have hno:¬(r.length=b.names.length∧r=b.ac):=fun h=>e2 h.1;simp only[if_neg hno];exact⟨_,by simp[iI,iM,iK,iJ,iL,g7,hm,hvn,hwl,w1,k1,e1];rfl,rfl,rfl,rfl⟩
end Go.AM
namespace Go.AM
open P
set_option maxHeartbeats 16000000
set_option maxRecDepth 8000
attribute [local simp] aF br
theorem S0(c:List cM)(hc:∀tb∈c,tb.af.length≤8000)(b:xU)(hb:GG b):bI I.qcq [eZ c,b.a]=some (GF (tt c b)):=by
 rw[aQ ahW rfl];have hba:b.a=.agg b.c:=rfl;have hbc:b.c=[.aa false (b.selects.map jJ.a),.aa false (b.names.map .str),.aa false (b.ac.map (.int .i64)),.aa false (b.order.map fU),.int .i64 b.limit]:=rfl;unfold tt GF;by_cases hl:b.selects.length<1∨3<b.selects.length
 ·simp only[if_pos hl,hba,hbc];by_cases h1:b.selects.length<1
  ·have h1':(b.selects.length:Int)<1:=by omega
   simp[an9,oB,kI,kK,kM,h1']
  have h1':¬(b.selects.length:Int)<1:=by omega
  have h2':(3:Int)<(b.selects.length:Int):=by omega
  simp[an9,oB,kI,kK,kM,h1',h2']
 simp only[if_neg hl];have h1':¬(b.selects.length:Int)<1:=by omega
 have h2':¬(3:Int)<(b.selects.length:Int):=by omega
 have h0:b.selects≠[]:=fun e=>by rw[e]at hl;simp at hl
 obtain⟨v,hO,hv,loop⟩:=Nf c hc b hb h0;obtain⟨q,h6,q1,q2⟩:=NJ c b hb _ v hO hv;generalize qr c b.selects=o at *;generalize cT (iZ b.order b.limit) o=o1 at *;by_cases hcnd:o1.isSome∧(FK o1).length=b.names.length∧FK o1=b.ac
 ·simp only[if_pos hcnd]at q2 ⊢;obtain⟨q2,q3⟩:=q2;simp only[oo,kV,aJ,hba,hbc,List.set,Bt,hcnd.1]at loop h6 q2 ⊢;generalize (o1.getD []).map bB.a=tv1 at *;generalize o.isSome=bo at *;simp[an9,oB,kI,kK,kM,qt,p9,qd,qf,qc,qi,h1',h2',loop,h6,q1,q2,q3]
 simp only[if_neg hcnd]at q2 ⊢;obtain⟨q2,q3⟩:=q2;simp only[oo,kV,aJ,hba,hbc,List.set]at loop h6 ⊢;generalize o.isSome=bo at *;simp[an9,oB,kI,kK,kM,qt,p9,qd,qf,qc,qi,h1',h2',loop,h6,q1,q2,q3]
end Go.AM
namespace Go.AM
open P
set_option maxHeartbeats 8000000
set_option maxRecDepth 8000
attribute [local simp] aF br
theorem M3{s:List UInt8}{i:Nat}{b:UInt8}(h:s[i]?=some b):(ByteArray.mk s.toArray).get! i=b:=by
 unfold ByteArray.get!;simp[h]
theorem Ap{s:List UInt8}{i:Nat}{b:UInt8}(h:s[i]?=some b)(hb:b.toNat < 128):Utf8.decode ⟨s.toArray⟩ i=(b.toNat,1):=by
 unfold Utf8.decode;simp only[eF,M3 h];rw[if_pos hb]
theorem Ny{s:List UInt8}{i:Nat}{b:UInt8}(h:s[i]?=some b)(hb:¬b.toNat < 128):128≤(Utf8.decode ⟨s.toArray⟩ i).1:=by
 unfold Utf8.decode;simp only[eF,M3 h];rw[if_neg hb]
 repeat' split
 all_goals simp_all[Utf8.runeError]<;>omega
def jX(b:UInt8):Bool:=decide (97≤b.toNat)&&decide (b.toNat≤122)
def vS(b:UInt8):Bool:=decide (48≤b.toNat)&&decide (b.toNat≤57)
def oJ(b:UInt8):Bool:=jX b ||vS b ||b.toNat==95
theorem DQ(n:Int):bI I.qel [.int .i32 n]=some (.bool (decide (97≤n)&&decide (n≤122))):=by
 rw[aQ aff rfl];simp[aps,aaM]
 repeat' (split<;>(try simp_all))
 all_goals (intros;omega)
theorem JZ(n:Int):bI I.qef [.int .i32 n]=some (.bool (decide (48≤n)&&decide (n≤57))):=by
 rw[aQ ag3 rfl];simp[apy,aaE]
 repeat' (split<;>(try simp_all))
 all_goals (intros;omega)
theorem DF(n:Int):bI I.qbl [.int .u8 n]=some (.bool (decide (97≤n)&&decide (n≤122))):=by
 rw[aQ aiE rfl];simp[apX,abB]
 repeat' (split<;>(try simp_all))
 all_goals (intros;omega)
theorem P9(n:Int):bI I.qbj [.int .u8 n]=some (.bool (decide (48≤n)&&decide (n≤57))):=by
 rw[aQ akk rfl];simp[apD,abN]
 repeat' (split<;>(try simp_all))
 all_goals (intros;omega)
theorem SE(b:Bool)(l:List (List UInt8))(s:List UInt8)(hl:l.length≤8000):∃k:Int,bI I.qie [.aa b (l.map .str),.str s]=some (.int .i64 k)∧decide (0≤k)=l.any (· == s):=by
 rw[aQ aiG rfl];have hm:l.length≤aV:=by unfold aV;omega
 have loop:=gf (base:=0) (clr:=[2,3,6,7]) (b:=zN) l (fun k=>⟨[.aa b (l.map .str),.str s,.any,.any,.int .i64 l.length,.int .i64 k,.any,.any],[]⟩) (fun x=>x==s)
  (.ext 0,⟨[.aa b (l.map .str),.str s,.any,.any,.int .i64 l.length,.int .i64 l.length,.bool false,.any],[]⟩) (fun o=>∃q,o=(.ret,q)∧∃k:Nat,q.env[2]?=some (.int .i64 k))
  (fun k x hk hy hp=>by
   have hg:∀h:k<l.length,l[k]'h=x:=fun h=>(ak.1 hy).2;have w2:=bJ hk hm;have hp2:(s==x)=false:=by rw[du]at hp ⊢;exact fun e=>hp e.symm
   simp[zN,ej,hk,hy,hg,w2,hp2,aT])
  (fun k x hk hy hp=>by
   have hg:∀h:k<l.length,l[k]'h=x:=fun h=>(ak.1 hy).2;have hp2:s=x:=by rw[aG]at hp;exact hp.symm
   subst hp2;exact⟨_,by simp[zN,ej,hk,hy,hg];rfl,_,rfl,k,rfl⟩)
  (by simp[zN])
 rcases loop with⟨ha,loop⟩|⟨ha,o,loop,q,rfl,k,hq⟩
 ·simp only[aJ]at loop;exact⟨-1,by simp[aoX,VO,loop],by rw[ha];rfl⟩
 simp only[aJ]at loop;exact⟨k,by simp[aoX,VO,loop,hq],by rw[ha];simp⟩
theorem AK(b:Bool)(l:List (List UInt8))(s:List UInt8)(hl:l.length≤8000):bI I.qhr [.aa b (l.map .str),.str s]=some (.bool (l.any (· == s))):=by
 obtain⟨k,h1,h2⟩:=SE b l s hl;rw[aQ afh rfl,←h2];simp[apH,aaO,h1]
theorem agD(b:Bool)(l:List (List UInt8))(s:List UInt8)(hl:l.length≤8000):bI I.qbk [.aa b (l.map .str),.str s]=some (.bool (l.any (· == s))):=by
 rw[aQ agz rfl];have hm:l.length≤aV:=by unfold aV;omega
 have loop:=gf (base:=0) (clr:=[2,4,5]) (b:=zO) l (fun k=>⟨[.aa b (l.map .str),.str s,.any,.int .i64 k,.any,.any],[]⟩) (fun x=>x==s)
  (.ext 0,⟨[.aa b (l.map .str),.str s,.any,.int .i64 l.length,.bool false,.any],[]⟩) (fun o=>∃q,o=(.ret,q)∧q.env[2]?=some (.bool true))
  (fun k x hk hy hp=>by
   have hg:∀h:k<l.length,l[k]'h=x:=fun h=>(ak.1 hy).2;have w2:=bJ hk hm;simp[zO,ej,hk,hy,hg,w2,hp,aT])
  (fun k x hk hy hp=>by
   have hg:∀h:k<l.length,l[k]'h=x:=fun h=>(ak.1 hy).2;exact⟨_,by simp[zO,ej,hk,hy,hg,hp];rfl,_,rfl,rfl⟩)
  (by simp[zO])
 rcases loop with⟨ha,loop⟩|⟨ha,o,loop,q,rfl,hq⟩
 ·simp only[aJ]at loop;rw[ha];simp[aoJ,TU,loop]
 simp only[aJ]at loop;rw[ha];simp[aoJ,TU,loop,hq]
end Go.AM
namespace Go.AM
open P
set_option maxHeartbeats 16000000
set_option maxRecDepth 8000
attribute [local simp] aF br
def lF:List (List UInt8):=[[83,69,76,69,67,84],[68,73,83,84,73,78,67,84],[70,82,79,77],[76,69,70,84],[74,79,73,78],[79,78],[87,72,69,82,69],[71,82,79,85,80],[66,89],[72,65,86,73,78,71],[85,78,73,79,78],[65,76,76],[79,82,68,69,82],[76,73,77,73,84],[65,83,67],[68,69,83,67],[65,83],[65,78,68],[79,82],[78,79,84],[73,83],[78,85,76,76],[84,82,85,69],[70,65,76,83,69],[67,79,85,78,84],[83,85,77],[77,73,78],[77,65,88]]
theorem YZ(s:List UInt8):bI I.qea [.str s]=some (.bool (lF.any (· == s))):=by
 have h:=AK false lF s (by decide);have h2:=AK true lF s (by decide);generalize lF.any (· == s)=r at *;rw[aQ aeY rfl];simp only[lF,cH,cE]at h h2;simp[apP,abv,h,h2]
theorem S7(s:List UInt8):bI I.qbg [.str s]=some (.bool (lF.any (· == s))):=by
 have h:=agD false lF s (by decide);have hw:bI I.qbi []=some (.aa false (lF.map .str)):=by
  rw[aQ ahX rfl];simp[apS,aaD,lF]
 generalize lF.any (· == s)=r at *;generalize lF.map ap.str=ws at *;rw[aQ afC rfl];simp[ao6,aaX,h,hw]
def Ty(b:UInt8):ap:=.int .u8 b.toNat
instance:Nc Ty 1 false:=⟨fun _=>rfl,fun _=>rfl⟩
instance:Fx Ty:=⟨fun _ _ _ _ _ _=>rfl⟩
theorem W8(l:List UInt8):wR (l.map Ty)=some l:=by
 induction l with
 |nil=>rfl
 |cons b l ih=>
  have:UInt8.ofNat b.toNat=b:=by simp
  simp[wR,Ty]at ih ⊢;simp[ih]
theorem FH(p:UInt8→Bool)(h:((List.range 256).all fun n=>p (UInt8.ofNat n))=true)(b:UInt8):p b=true:=by
 have:=aI.1 h b.toNat (by have:=b.toNat_lt;simp;omega);simpa using this
theorem Xt{b:UInt8}(h:jX b=true):IntKind.u8.wrap (IntKind.u8.wrap ((b.toNat:Int)-97)+65)=((Lib.upperB b).toNat:Int):=by
 have:=FH (fun b=>!jX b ||decide (IntKind.u8.wrap (IntKind.u8.wrap ((b.toNat:Int)-97)+65)=((Lib.upperB b).toNat:Int))) (by kernel_rfl) b;rw[h]at this;simpa using this
theorem ado{b:UInt8}(h:jX b=false):Lib.upperB b=b:=by
 have:=FH (fun b=>jX b ||decide (Lib.upperB b=b)) (by kernel_rfl) b;rw[h]at this;simpa using this
theorem Fs{b:UInt8}(h:oJ b=true):b.toNat < 128:=by
 have:=FH (fun b=>!oJ b ||decide (b.toNat < 128)) (by kernel_rfl) b;rw[h]at this;simpa using this
theorem Y5(s:List UInt8)(hs:s.length≤8000):bI I.qbh [.str s]=some (.str (s.map Lib.upperB)):=by
 rw[aQ ai7 rfl];have loop:=da (base:=1) (clr:=[4,5,6]) (b:=zv)
  (fun k=>⟨[.str s,.str [],.sl 0 k 0 k,.int .i64 k,.any,.any,.any],[.arr 1 k (((s.take k).map Lib.upperB).map Ty)]⟩) s.length
  (.ext 0,⟨[.str s,.str [],.sl 0 s.length 0 s.length,.int .i64 s.length,.any,.bool false,.any],[.arr 1 s.length ((s.map Lib.upperB).map Ty)]⟩)
  (fun k hk=>by
   have hy:s[k]?=some s[k]:=aq hk;have hgg:∀h:k<s.length,s[k]'h=s[k]'hk:=fun _=>rfl;have hs1:(s.take (k+1)).map Lib.upperB=(s.take k).map Lib.upperB++[Lib.upperB s[k]]:=by rw[fo,hy,bR];rfl
   have hsl:((s.take k).map Lib.upperB).length=k:=by simp;omega
   generalize (s.take k).map Lib.upperB=cs at *;generalize s[k]=b at *;rw[hs1];have w2:IntKind.i64.wrap ((k:Int)+1)=(k:Int)+1:=tI (by omega) (by omega);have hkm:k+1≤aV:=by unfold aV;omega
   have htk:List.take k (cs.map Ty)=cs.map Ty:=ay (by simp[hsl]);have hsm:=DF b.toNat;cases hb:jX b with
   |true=>
    have hu:=Xt hb;have hd:(decide (97≤(b.toNat:Int))&&decide ((b.toNat:Int)≤122))=true:=by unfold jX at hb;simp at hb ⊢;omega
    rw[hd]at hsm;have hua:Ty (Lib.upperB b)=.int .u8 ((Lib.upperB b).toNat:Int):=rfl;rw[bR,cH,cE,hua];simp[zv,hk,hy,hgg,w2,hsm,hu,append,hkm,htk,hsl,aT]
   |false=>
    have hu:=ado hb;have hd:(decide (97≤(b.toNat:Int))&&decide ((b.toNat:Int)≤122))=false:=by
     unfold jX at hb;rw[gC]at hb ⊢;simp only[fZ]at hb ⊢;omega
    rw[hd]at hsm;have hua:Ty b=.int .u8 (b.toNat:Int):=rfl;rw[hu,bR,cH,cE,hua];simp[zv,hk,hy,hgg,w2,hsm,append,hkm,htk,hsl,aT])
  (by simp[zv])
 have hb:=W8 (s.map Lib.upperB);have htk:List.take s.length ((s.map Lib.upperB).map Ty)=(s.map Lib.upperB).map Ty:=ay (by simp);have hln:(s.map Lib.upperB).length=s.length:=by simp
 generalize s.map Lib.upperB=us at *;simp only[aJ,List.take_zero,cE]at loop;simp[apF,abC,loop,SY,rd,sliceAt,htk,hln,hb]
end Go.AM
namespace Go.AM
open P
set_option maxHeartbeats 16000000
set_option maxRecDepth 8000
attribute [local simp] aF br
def kf(s:List UInt8):Bool:=match s with
 |[]=>false
 |b::_=>decide (s.length≤16)&&jX b&&s.all oJ&&!(lF.any (· == s.map Lib.upperB))
theorem Qv{s:List UInt8}:s.any (fun b=>!oJ b)=!s.all oJ:=by
 induction s with
 |nil=>rfl
 |cons b s ih=>simp[ih]
theorem re{b:UInt8}:(decide (97≤(b.toNat:Int))&&decide ((b.toNat:Int)≤122))=jX b:=by
 unfold jX;rw[cS];simp;omega
theorem wX{b:UInt8}:(decide (48≤(b.toNat:Int))&&decide ((b.toNat:Int)≤57))=vS b:=by
 unfold vS;rw[cS];simp;omega
theorem vc(b:UInt8):(oJ b=true∧(jX b=true∨(jX b=false∧vS b=true)∨(jX b=false∧vS b=false∧b.toNat=95)))∨(oJ b=false∧jX b=false∧vS b=false∧b.toNat≠95):=by
 unfold oJ;cases jX b<;>cases vS b<;>simp;exact (Classical.em _)
theorem Gd(s:List UInt8):bI I.qbf [.str s]=some (.bool (kf s)):=by
 rw[aQ ahE rfl];cases hs:s with
 |nil=>simp[anY,ej,Gb,kf]
 |cons b t=>
  rw[←hs];have h1:¬((s.length:Int)<1):=by rw[hs];simp;omega
  have h1':s.length≠0:=by rw[hs];simp
  have hf:kf s=(decide (s.length≤16)&&jX b&&s.all oJ&&!(lF.any (· == s.map Lib.upperB))):=by rw[hs];rfl
  rw[hf];have hg0:s[0]?=some b:=by rw[hs];rfl
  by_cases h16:s.length≤16
  rotate_left
  ·have h2:(16:Int)<(s.length:Int):=by omega
   simp[anY,ej,Gb,h1,h2,h16]
  have h2:¬(16:Int)<(s.length:Int):=by omega
  have hsb:=DF b.toNat;rw[re]at hsb;cases hb:jX b with
  |false=>
   rw[hb]at hsb;simp[anY,ej,Gb,h1,h2,h16,hg0,hsb]
  |true=>
   rw[hb]at hsb;have hU:=Y5 s (by omega);have hW:=S7 (s.map Lib.upperB);generalize s.map Lib.upperB=us at *;cases hw:lF.any (· == us) with
   |true=>
    rw[hw]at hW;simp[anY,ej,Gb,h1,h2,h16,hg0,hsb,hU,hW]
   |false=>
    rw[hw]at hW;have hm:s.length≤aV:=by unfold aV;omega
    have loop:=gf (base:=0) (clr:=[1,4,5]) (b:=uW) s (fun k=>⟨[.str s,.any,.int .i64 k,.bool false,.any,.any],[]⟩) (fun b=>!oJ b)
     (.ext 0,⟨[.str s,.any,.int .i64 s.length,.bool false,.bool false,.any],[]⟩) (fun o=>∃q,o=(.ret,q)∧q.env[1]?=some (.bool false))
     (fun k x hk hy hp=>by
      have hg:∀h:k<s.length,s[k]'h=x:=fun h=>(ak.1 hy).2;have w2:=bJ hk hm;have e1:=DF x.toNat;have e2:=P9 x.toNat;rw[re]at e1;rw[wX]at e2;rcases vc x with⟨_,hc⟩|⟨hc,_⟩
      ·rcases hc with c1|⟨c1,c2⟩|⟨c1,c2,c3⟩
       ·rw[c1]at e1;simp[uW,hk,hy,hg,w2,e1,aT]
       ·rw[c1]at e1;rw[c2]at e2;simp[uW,hk,hy,hg,w2,e1,e2,aT]
       rw[c1]at e1;rw[c2]at e2;rw[c3]at e1 e2;simp at e1 e2;simp[uW,hk,hy,hg,w2,c3,e1,e2,aT]
      simp[hc]at hp)
     (fun k x hk hy hp=>by
      have hg:∀h:k<s.length,s[k]'h=x:=fun h=>(ak.1 hy).2;have e1:=DF x.toNat;have e2:=P9 x.toNat;rw[re]at e1;rw[wX]at e2;rcases vc x with⟨hc,_⟩|⟨_,c1,c2,c3⟩
      ·simp[hc]at hp
      rw[c1]at e1;rw[c2]at e2;have c4:((x.toNat:Int) != 95)=true:=by simp;omega
      exact⟨_,by simp[uW,hk,hy,hg,e1,e2,c4];rfl,_,rfl,rfl⟩)
     (by simp[uW])
    rw[Qv]at loop;rcases loop with⟨ha,loop⟩|⟨ha,o,loop,q,rfl,hq⟩
    ·have ha:s.all oJ=true:=by simpa using ha
     simp only[aJ]at loop;rw[ha];simp[anY,ej,Gb,h1,h2,h16,hg0,hsb,hU,hW,loop]
    have ha:s.all oJ=false:=by simpa using ha
    simp only[aJ]at loop;rw[ha];simp[anY,ej,Gb,h1,h2,h16,hg0,hsb,hU,hW,loop,hq]
def upS(s:List UInt8):List UInt8:=if s.all (fun b=>decide (b.toNat < 128))=true then Lib.toUpperA s else Lib.toUpperD s
theorem Sd(s:List UInt8)(hs:s.length≤8000)(σ:aw):db code I.strings_ToUpper [.str s] σ=some (.str (upS s),σ):=by
 refine FN gz (k:=4) (n:=0) zR ?_;show wY [.str s] σ=_;unfold wY;simp only;rw[if_pos (show s.length<35184372088832 by omega)];rfl
theorem XN{s:List UInt8}(h:s.all oJ=true):upS s=s.map Lib.upperB:=by
 unfold upS;rw[if_pos]
 ·rfl
 rw[aI]at h ⊢;intro b hb;have:=Fs (h b hb);simpa using this
theorem Em(s:List UInt8):bI I.qdz [.str s]=some (.bool (kf s)):=by
 rw[aQ afg rfl];cases hs:s with
 |nil=>simp[anW,ej,Cx,kf]
 |cons b t=>
  rw[←hs];have h1:(s==[])=false:=by rw[hs];rfl
  have h1':s≠[]:=by rw[hs];simp
  have hf:kf s=(decide (s.length≤16)&&jX b&&s.all oJ&&!(lF.any (· == s.map Lib.upperB))):=by rw[hs];rfl
  rw[hf];have hg0:s[0]?=some b:=by rw[hs];rfl
  by_cases h16:s.length≤16
  rotate_left
  ·have h2:(16:Int)<(s.length:Int):=by omega
   simp[anW,ej,Cx,h1,h1',h2,h16]
  have h2:¬(16:Int)<(s.length:Int):=by omega
  have hsb:=DQ b.toNat;rw[re]at hsb;have wb:IntKind.i32.wrap (b.toNat:Int)=(b.toNat:Int):=by
   have:=b.toNat_lt;have hk:∀n:Nat,n<256→IntKind.i32.wrap (n:Int)=(n:Int):=by
    intro n hn;have:((List.range 256).all fun n=>decide (IntKind.i32.wrap ((n:Nat):Int)=((n:Nat):Int)))=true:=by kernel_rfl
    have:=aI.1 this n (by simpa using hn);simpa using this
   exact hk _ this
  cases hb:jX b with
  |false=>
   rw[hb]at hsb;simp[anW,ej,Cx,h1,h1',h2,h16,hg0,wb,hsb]
  |true=>
   rw[hb]at hsb;have hU:=Sd s (by omega);have hW:=YZ (upS s);have hup:=@XN s;generalize upS s=us at *;have loop:=gf (base:=1) (clr:=[1,2,5,6,7]) (b:=sz) s (fun k=>⟨[.str s,.any,.any,.bool false,.it 0,.any,.any,.any],[.it s k]⟩) (fun b=>!oJ b)
     (.ext 0,⟨[.str s,.any,.any,.bool false,.it 0,.tup [.bool false],.bool false,.any],[.it s s.length]⟩) (fun o=>∃q,o=(.ret,q)∧q.env[1]?=some (.bool false))
     (fun k x hk hy hp=>by
      have hn:oJ x=true:=by simpa using hp
      have hd:=Ap hy (Fs hn);have e1:=DQ x.toNat;have e2:=JZ x.toNat;rw[re]at e1;rw[wX]at e2;rcases vc x with⟨_,hc⟩|⟨hc,_⟩
      ·rcases hc with c1|⟨c1,c2⟩|⟨c1,c2,c3⟩
       ·rw[c1]at e1;cases hdg:vS x<;>rw[hdg]at e2<;>simp[sz,vM,hk,hd,e1,e2,aT]
       ·rw[c1]at e1;rw[c2]at e2;simp[sz,vM,hk,hd,e1,e2,aT]
       rw[c1]at e1;rw[c2]at e2;rw[c3]at e1 e2 hd;simp at e1 e2;simp[sz,vM,hk,hd,e1,e2,aT]
      simp[hc]at hn)
     (fun k x hk hy hp=>by
      rcases vc x with⟨hc,_⟩|⟨_,c1,c2,c3⟩
      ·simp[hc]at hp
      by_cases hb:x.toNat < 128
      ·have hd:=Ap hy hb;have e1:=DQ x.toNat;have e2:=JZ x.toNat;rw[re,c1]at e1;rw[wX,c2]at e2;have c4:((x.toNat:Int) != 95)=true:=by simp;omega
       exact⟨_,by simp[sz,vM,hk,hd,e1,e2,c4];rfl,_,rfl,rfl⟩
      have hd:=Ny hy hb;generalize hdd:Utf8.decode ⟨s.toArray⟩ k=d at *;obtain⟨r,w⟩:=d;simp only at hd;have e1:=DQ r;have e2:=JZ r;have d1:(decide (97≤(r:Int))&&decide ((r:Int)≤122))=false:=by simp;omega
      have d2:(decide (48≤(r:Int))&&decide ((r:Int)≤57))=false:=by simp;omega
      rw[d1]at e1;rw[d2]at e2;have c4:((r:Int) != 95)=true:=by simp;omega
      exact⟨_,by simp[sz,vM,hk,hdd,e1,e2,c4];rfl,_,rfl,rfl⟩)
     (by simp[sz,vM])
   rw[Qv]at loop;rcases loop with⟨ha,loop⟩|⟨ha,o,loop,q,rfl,hq⟩
   ·have ha:s.all oJ=true:=by simpa using ha
    have hup:=hup ha;rw[←hup,ha];cases hw:lF.any (· == us) with
    |true=>
     rw[hw]at hW;simp[anW,ej,Cx,h1,h1',h2,h16,hg0,wb,hsb,hU,hW]
    |false=>
     rw[hw]at hW;simp[anW,ej,Cx,h1,h1',h2,h16,hg0,wb,hsb,hU,hW,OE,loop]
   have ha:s.all oJ=false:=by simpa using ha
   rw[ha];cases hw:lF.any (· == us) with
   |true=>
    rw[hw]at hW;simp[anW,ej,Cx,h1,h1',h2,h16,hg0,wb,hsb,hU,hW]
   |false=>
    rw[hw]at hW;simp[anW,ej,Cx,h1,h1',h2,h16,hg0,wb,hsb,hU,hW,OE,loop,hq]
end Go.AM
namespace Go.AM
open P
set_option maxHeartbeats 4000000
set_option maxRecDepth 8000
attribute [local simp] aF br
theorem mj{α:Type}{enc:α→ap}{b:Bool}{l:List α}{f:ap}{p:α→Bool}(hn:l.length≤aV)(he:∀y,aC (enc y)=3∧isAgg (enc y)=true)(hs:EM f)
  (h:∀y∈l,mr code f [enc y] []=some (.bool (p y),[])):bI I.qhz [.aa b (l.map enc),f]=some (.int .i64 (Ll p l)):=by
 rw[aQ agP rfl];have hs0:=hs [];have hstep:∀k,k<l.length→∀y,l[k]?=some y→p y=false→dE 0 [2,3,6,7] qK (run code qK ⟨[.aa b (l.map enc),f,.any,.any,.int .i64 l.length,.int .i64 k,.any,.any],[]⟩) =
   cc code 0 [2,3,6,7] qK ⟨[.aa b (l.map enc),f,.any,.any,.int .i64 l.length,.int .i64 (k+1:Nat),.any,.any],[]⟩:=fun k hk y hy hp=>by
  have h2:=he y;have h3:=h y (aD hy);rw[hp]at h3;have aj:((k:Int)<(l.length:Int)):=by omega
  simp[qK,hy,h2,h3,aj,bJ hk hn,bX]
 unfold Ll;by_cases ha:l.any p=true
 ·have aj:=dW (dJ.1 ha);have hp:p l[l.findIdx p]=true:=fQ (w:=aj);have hloop:=da (base:=0) (clr:=[2,3,6,7]) (b:=qK) (fun k=>⟨[.aa b (l.map enc),f,.any,.any,.int .i64 l.length,.int .i64 k,.any,.any],[]⟩) (l.findIdx p)
   (.ret,⟨[.aa b (l.map enc),f,.int .i64 (l.findIdx p),.int .i64 (l.findIdx p),.int .i64 l.length,.int .i64 (l.findIdx p),.bool true,.bool true],[]⟩)
   (fun k hk=>hstep k (by omega) _ (aq (by omega)) (by simpa using eO hk))
   (by
    have h1:l[l.findIdx p]?=some l[l.findIdx p]:=aq aj;have h2:=he l[l.findIdx p];have h3:=h _ (aO aj);rw[hp]at h3;have hlt':((l.findIdx p:Int)<(l.length:Int)):=by omega
    simp[qK,h1,h2,h3,hlt'])
  simp at hloop;simp[aoN,Wb,hs0,hloop,ha]
 have hall:∀y∈l,p y=false:=fun y hy=>by simpa using dX.1 (jw _▸ha) y hy
 have hloop:=da (base:=0) (clr:=[2,3,6,7]) (b:=qK) (fun k=>⟨[.aa b (l.map enc),f,.any,.any,.int .i64 l.length,.int .i64 k,.any,.any],[]⟩) l.length
  (.ext 0,⟨[.aa b (l.map enc),f,.any,.any,.int .i64 l.length,.int .i64 l.length,.bool false,.any],[]⟩)
  (fun k hk=>hstep k hk _ (aq hk) (hall _ (aO hk)))
  (by simp[qK])
 simp at hloop;simp[aoN,Wb,hs0,hloop,ha]
theorem rb{α:Type}{enc:α→ap}{b:Bool}{l:List α}{f:ap}{p:α→Bool}(hn:l.length≤aV)(he:∀y,aC (enc y)=2∧isAgg (enc y)=true)(hs:EM f)
  (h:∀y∈l,mr code f [enc y] []=some (.bool (p y),[])):bI I.qhu [.aa b (l.map enc),f]=some (.int .i64 (Ll p l)):=by
 rw[aQ akp rfl];have hs0:=hs [];have hstep:∀k,k<l.length→∀y,l[k]?=some y→p y=false→dE 0 [2,3,6,7] qX (run code qX ⟨[.aa b (l.map enc),f,.any,.any,.int .i64 l.length,.int .i64 k,.any,.any],[]⟩) =
   cc code 0 [2,3,6,7] qX ⟨[.aa b (l.map enc),f,.any,.any,.int .i64 l.length,.int .i64 (k+1:Nat),.any,.any],[]⟩:=fun k hk y hy hp=>by
  have h2:=he y;have h3:=h y (aD hy);rw[hp]at h3;have aj:((k:Int)<(l.length:Int)):=by omega
  simp[qX,hy,h2,h3,aj,bJ hk hn,bX]
 unfold Ll;by_cases ha:l.any p=true
 ·have aj:=dW (dJ.1 ha);have hp:p l[l.findIdx p]=true:=fQ (w:=aj);have hloop:=da (base:=0) (clr:=[2,3,6,7]) (b:=qX) (fun k=>⟨[.aa b (l.map enc),f,.any,.any,.int .i64 l.length,.int .i64 k,.any,.any],[]⟩) (l.findIdx p)
   (.ret,⟨[.aa b (l.map enc),f,.int .i64 (l.findIdx p),.int .i64 (l.findIdx p),.int .i64 l.length,.int .i64 (l.findIdx p),.bool true,.bool true],[]⟩)
   (fun k hk=>hstep k (by omega) _ (aq (by omega)) (by simpa using eO hk))
   (by
    have h1:l[l.findIdx p]?=some l[l.findIdx p]:=aq aj;have h2:=he l[l.findIdx p];have h3:=h _ (aO aj);rw[hp]at h3;have hlt':((l.findIdx p:Int)<(l.length:Int)):=by omega
    simp[qX,h1,h2,h3,hlt'])
  simp at hloop;simp[aoZ,Wa,hs0,hloop,ha]
 have hall:∀y∈l,p y=false:=fun y hy=>by simpa using dX.1 (jw _▸ha) y hy
 have hloop:=da (base:=0) (clr:=[2,3,6,7]) (b:=qX) (fun k=>⟨[.aa b (l.map enc),f,.any,.any,.int .i64 l.length,.int .i64 k,.any,.any],[]⟩) l.length
  (.ext 0,⟨[.aa b (l.map enc),f,.any,.any,.int .i64 l.length,.int .i64 l.length,.bool false,.any],[]⟩)
  (fun k hk=>hstep k hk _ (aq hk) (hall _ (aO hk)))
  (by simp[qX])
 simp at hloop;simp[aoZ,Wa,hs0,hloop,ha]
theorem p7{α:Type}{enc:α→ap}{b:Bool}{l:List α}{f:ap}{p:α→Bool}(hn:l.length≤aV)(he:∀y,aC (enc y)=3∧isAgg (enc y)=true)(hs:EM f)
  (h:∀y∈l,mr code f [enc y] []=some (.bool (p y),[])):bI I.qho [.aa b (l.map enc),f]=some (.bool (l.any p)):=by
 rw[aQ agR rfl];have h:=mj (b:=b) hn he hs h;have hs0:=hs [];unfold Ll at h;cases ha:l.any p<;>rw[ha]at h<;>simp[apd,aaV,hs0,h]
end Go.AM
namespace Go.AM
open P
set_option maxHeartbeats 16000000
set_option maxRecDepth 8000
attribute [local simp] aF br
theorem Ci(t:cM):bI I.qdf [t.a]=some (.str t.name):=by
 rw[aQ afL rfl];have ht:t.a=.agg [.str t.name,.aa false (t.af.map eJ.a),.aa false (t.keys.map (.int .i64))]:=rfl;rw[ht];simp[apj,aaU]
theorem Ak(c:eJ):bI I.qcy [c.a]=some (.str c.name):=by
 rw[aQ agK rfl];have ht:c.a=.agg [.str c.name,.int .i64 c.kind]:=rfl;rw[ht];simp[ao9,abA]
theorem XY(t:cM)(n:List UInt8)(b1 b2:Bool):bI I.qdc [t.a,.cptr b1 (.fn I.qdf [] []) 0,.cptr b2 (.str n) 0]=some (.bool (t.name==n)):=by
 rw[aQ ai9 rfl];have hn:=Ci t;have n3:aC t.a=3∧isAgg t.a=true:=⟨rfl,rfl⟩;have n1:∀fl top base σ m,fz fl top base σ (m+3) t.a=t.a:=fun fl top base σ m=>Fx.fx fl top base σ m t;cases b1<;>cases b2<;>simp[apw,abJ,hn,n1,n3,ej]
theorem Zl(t:eJ)(n:List UInt8)(b1 b2:Bool):bI I.qda [t.a,.cptr b1 (.fn I.qcy [] []) 0,.cptr b2 (.str n) 0]=some (.bool (t.name==n)):=by
 rw[aQ afx rfl];have hn:=Ak t;have n3:aC t.a=2∧isAgg t.a=true:=⟨rfl,rfl⟩;have n1:∀fl top base σ m,fz fl top base σ (m+3) t.a=t.a:=fun fl top base σ m=>Fx.fx fl top base σ m t;cases b1<;>cases b2<;>simp[apk,aap,hn,n1,n3,ej]
theorem acS(b:Bool)(l:List cM)(hl:l.length≤8000)(n:List UInt8):∃k ok,bI I.qdb [.aa b (l.map cM.a),.fn I.qdf [] [],.str n]=some (.tup [.int .i64 k,.bool ok])∧k=max (Ll (fun t=>t.name==n) l) 0:=by
 have hC:=mj (enc:=cM.a) (b:=b) (l:=l) (f:=iC [.arr 1 0 [.fn I.qdf [] []],.arr 1 0 [.str n]] (.fn I.qdc [] [.ptr 0 0 0 0,.ptr 1 0 0 0])) (p:=fun t=>t.name==n) (by unfold aV;omega) (fun _=>⟨rfl,rfl⟩) (fun σ=>pg _ _ _) (fun t _=>by
  have n1:∀fl top base σ m,fz fl top base σ (m+3) t.a=t.a:=fun fl top base σ m=>Fx.fx fl top base σ m t;simp[XY,n1])
 rw[aQ ahp rfl];simp at hC;generalize Ll (fun t=>t.name==n) l=ix at *;refine⟨max ix 0,decide (0≤ix),?_,rfl⟩;simp[apu,aa3,hC];split<;>omega
theorem adJ(b:Bool)(l:List eJ)(hl:l.length≤8000)(n:List UInt8):∃k ok,bI I.qcz [.aa b (l.map eJ.a),.fn I.qcy [] [],.str n]=some (.tup [.int .i64 k,.bool ok])∧k=max (Ll (fun t=>t.name==n) l) 0:=by
 have hC:=rb (enc:=eJ.a) (b:=b) (l:=l) (f:=iC [.arr 1 0 [.fn I.qcy [] []],.arr 1 0 [.str n]] (.fn I.qda [] [.ptr 0 0 0 0,.ptr 1 0 0 0])) (p:=fun t=>t.name==n) (by unfold aV;omega) (fun _=>⟨rfl,rfl⟩) (fun σ=>pg _ _ _) (fun t _=>by
  have n1:∀fl top base σ m,fz fl top base σ (m+3) t.a=t.a:=fun fl top base σ m=>Fx.fx fl top base σ m t;simp[Zl,n1])
 rw[aQ ag5 rfl];simp at hC;generalize Ll (fun t=>t.name==n) l=ix at *;refine⟨max ix 0,decide (0≤ix),?_,rfl⟩;simp[api,Z5,hC];split<;>omega
def ly{α:Type}(g:Nat→α→Bool):List α→Nat→Bool
 |[],_=>true
 |x::l,k=>g k x&&ly g l (k+1)
theorem pe{α:Type}(g:Nat→α→Bool):∀(l:List α) (k:Nat),dm (fun k y (_:Unit)=>if g k y then (.inl ():Unit⊕Unit) else .inr ()) l k ()=if ly g l k then .inl () else .inr ()
 |[],k=>rfl
 |x::l,k=>by
  rw[dm,ly];cases g k x with
  |true=>simpa using pe g l (k+1)
  |false=>rfl
def oW{α:Type}(of:α→List UInt8)(l:List α)(k:Nat)(x:α):Bool:=!((l.take k).any fun y=>of y==of x)
theorem U0{α:Type}(of:α→List UInt8){l:List α}{k:Nat}{x:α}(hx:l[k]?=some x):(max (Ll (fun t=>of t==of x) l) 0 != (k:Int))=!oW of l k x:=by
 have hk:=(ak.1 hx).1;have he:=(ak.1 hx).2;have hany:l.any (fun t=>of t==of x)=true:=dJ.2 ⟨x,aD hx,by simp⟩;unfold Ll oW;rw[if_pos hany,Bool.not_not];have hle:l.findIdx (fun t=>of t==of x)≤k:=by
  apply dP;intro h;have:=eO (p:=fun t=>of t==of x) (xs:=l) (i:=k) (by omega);rw[he]at this;simp at this
 have aj:=dW (dJ.1 hany);cases hq:(l.take k).any (fun y=>of y==of x) with
 |true=>
  obtain⟨y,hy,hp⟩:=dJ.1 hq;obtain⟨i,hi,rfl⟩:=bP.1 hy;have hi':i<k:=by simp at hi;omega
  have hil:i<l.length:=by omega
  have:l.findIdx (fun t=>of t==of x)≤i:=by
   apply dP;intro h;have:=eO (p:=fun t=>of t==of x) (xs:=l) (i:=i) (by omega);rw[dB]at hp;rw[hp]at this;simp at this
  simp;omega
 |false=>
  have hge:k≤l.findIdx (fun t=>of t==of x):=by
   apply dP;intro h;have hp:(fun t=>of t==of x) l[l.findIdx (fun t=>of t==of x)]=true:=fQ (w:=aj);have hm:l[l.findIdx (fun t=>of t==of x)]∈l.take k:=by
    rw[bP];exact⟨l.findIdx (fun t=>of t==of x),by simp;omega,by rw[dB]⟩
   have:=dX.1 hq _ hm;exact this hp
  simp;omega
theorem acI(b:Bool)(l:List cM)(hl:l.length≤8000):bI I.qde [.aa b (l.map cM.a),.fn I.qdf [] []]=some (.bool (ly (fun k t=>oW cM.name l k t&&kf t.name) l 0)):=by
 rw[aQ aeW rfl];have hm:l.length≤aV:=by unfold aV;omega
 have key:=eL (base:=0) (clr:=[2,3,4,5,9,10]) (b:=xC) l (fun k (_:Unit)=>⟨[.aa b (l.map cM.a),.fn I.qdf [] [],.any,.any,.any,.any,.aa b (l.map cM.a),.int .i64 l.length,.int .i64 k,.any,.any],[]⟩) (fun _ _=>True)
  (fun k t (_:Unit)=>if (oW cM.name l k t&&kf t.name) then (.inl ():Unit⊕Unit) else .inr ())
  (fun _=>(.ext 0,⟨[.aa b (l.map cM.a),.fn I.qdf [] [],.any,.any,.any,.any,.aa b (l.map cM.a),.int .i64 l.length,.int .i64 l.length,.bool false,.any],[]⟩)) (fun _ o=>∃q,o=(.ret,q)∧q.env[2]?=some (.bool false))
  (fun k t _ hk hy _=>by
   have hg:∀h:k<l.length,l[k]'h=t:=fun h=>(ak.1 hy).2;have w2:=bJ hk hm;have hn:=Ci t;have n3:aC t.a=3∧isAgg t.a=true:=⟨rfl,rfl⟩;have n1:∀fl top base σ m,fz fl top base σ (m+3) t.a=t.a:=fun fl top base σ m=>Fx.fx fl top base σ m t;obtain⟨ix,ok,hf,hix⟩:=acS b l hl t.name;have hfst:=U0 cM.name hy;rw[←hix]at hfst;have hnm:=Em t.name;cases hA:oW cM.name l k t with
   |false=>
    rw[hA]at hfst;simp only[gg,aH,bQ];exact⟨_,by simp[xC,hk,hy,hg,hn,n1,n3,hf,hfst];rfl,_,rfl,rfl⟩
   |true=>
    rw[hA]at hfst;simp only[cG];cases hB:kf t.name with
    |false=>
     rw[hB]at hnm;simp only[aH,bQ];exact⟨_,by simp[xC,hk,hy,hg,hn,n1,n3,hf,hfst,hnm];rfl,_,rfl,rfl⟩
    |true=>
     rw[hB]at hnm;simp only[bU];refine⟨?_,trivial⟩;simp[xC,hk,hy,hg,hn,n1,n3,hf,hfst,hnm,w2,aT,bG,dp])
  (fun _ _=>by simp[xC]) () trivial
 rw[pe]at key;cases hq:ly (fun k t=>oW cM.name l k t&&kf t.name) l 0 with
 |true=>
  rw[hq]at key;have key:=key.2;simp only[aJ]at key;simp[ao1,Ul,key]
 |false=>
  rw[hq]at key;obtain⟨o,key,q,rfl,hq2⟩:=key;simp only[aJ]at key;simp[ao1,Ul,key,hq2]
theorem aek(b:Bool)(l:List eJ)(hl:l.length≤8000):bI I.qdd [.aa b (l.map eJ.a),.fn I.qcy [] []]=some (.bool (ly (fun k t=>oW eJ.name l k t&&kf t.name) l 0)):=by
 rw[aQ ahJ rfl];have hm:l.length≤aV:=by unfold aV;omega
 have key:=eL (base:=0) (clr:=[2,3,4,5,9,10]) (b:=xf) l (fun k (_:Unit)=>⟨[.aa b (l.map eJ.a),.fn I.qcy [] [],.any,.any,.any,.any,.aa b (l.map eJ.a),.int .i64 l.length,.int .i64 k,.any,.any],[]⟩) (fun _ _=>True)
  (fun k t (_:Unit)=>if (oW eJ.name l k t&&kf t.name) then (.inl ():Unit⊕Unit) else .inr ())
  (fun _=>(.ext 0,⟨[.aa b (l.map eJ.a),.fn I.qcy [] [],.any,.any,.any,.any,.aa b (l.map eJ.a),.int .i64 l.length,.int .i64 l.length,.bool false,.any],[]⟩)) (fun _ o=>∃q,o=(.ret,q)∧q.env[2]?=some (.bool false))
  (fun k t _ hk hy _=>by
   have hg:∀h:k<l.length,l[k]'h=t:=fun h=>(ak.1 hy).2;have w2:=bJ hk hm;have hn:=Ak t;have n3:aC t.a=2∧isAgg t.a=true:=⟨rfl,rfl⟩;have n1:∀fl top base σ m,fz fl top base σ (m+3) t.a=t.a:=fun fl top base σ m=>Fx.fx fl top base σ m t;obtain⟨ix,ok,hf,hix⟩:=adJ b l hl t.name;have hfst:=U0 eJ.name hy;rw[←hix]at hfst;have hnm:=Em t.name;cases hA:oW eJ.name l k t with
   |false=>
    rw[hA]at hfst;simp only[gg,aH,bQ];exact⟨_,by simp[xf,hk,hy,hg,hn,n1,n3,hf,hfst];rfl,_,rfl,rfl⟩
   |true=>
    rw[hA]at hfst;simp only[cG];cases hB:kf t.name with
    |false=>
     rw[hB]at hnm;simp only[aH,bQ];exact⟨_,by simp[xf,hk,hy,hg,hn,n1,n3,hf,hfst,hnm];rfl,_,rfl,rfl⟩
    |true=>
     rw[hB]at hnm;simp only[bU];refine⟨?_,trivial⟩;simp[xf,hk,hy,hg,hn,n1,n3,hf,hfst,hnm,w2,aT,bG,dp])
  (fun _ _=>by simp[xf]) () trivial
 rw[pe]at key;cases hq:ly (fun k t=>oW eJ.name l k t&&kf t.name) l 0 with
 |true=>
  rw[hq]at key;have key:=key.2;simp only[aJ]at key;simp[aoL,Wu,key]
 |false=>
  rw[hq]at key;obtain⟨o,key,q,rfl,hq2⟩:=key;simp only[aJ]at key;simp[aoL,Wu,key,hq2]
end Go.AM
