/- Part of the proof. -/
import Derived.Test.YtpdimbocafbieaaGreatDoorAm16
import Derived.Test.YtpdimbocafbieaaGreatDoorAm15
set_option linter.unusedVariables false
set_option linter.unusedSimpArgs false
section
namespace Go.AM
open P
set_option maxHeartbeats 32000000
set_option maxRecDepth 8000
attribute [local simp] condRun_if when_if
def own13(n:LNX):Bool:=
 (n.op == 1 || (n.tab == 0&&n.kinds.isEmpty))&&(n.op == 2 || (!n.left&&(n.op == 3 || n.cond.isEmpty))) &&
 ((n.op == 4 || (n.keys.isEmpty&&n.aggs.isEmpty))&&(n.op == 5 || n.items.isEmpty))&&(n.op == 8 || (n.ords.isEmpty&&n.limit == 0))
theorem len_pos{α:Type}{l:List α}(h:¬l=[]):(0:Int) < l.length:=by
 have:l.length≠0:=fun e=>h (List.eq_nil_of_length_eq_zero e)
 omega
theorem len_posN{α:Type}{l:List α}(h:¬l=[]):0 < l.length:=by
 have:=len_pos h;omega
theorem len_ne{α:Type}{l:List α}(h:¬l=[]):¬((l.length:Int)=0):=by
 have:=len_pos h;omega
theorem isEmpty_f{α:Type}{l:List α}(h:¬l=[]):l.isEmpty=false:=by cases l with|nil=>exact absurd rfl h|cons=>rfl
theorem own13_v(n:LNX):pcall I.qv [n.a]=some (.bool (own13 n)):=by
 rw[pcall_eq c_qv rfl]
 obtain ⟨op,a,b,tab,bk,kinds,left,bc,cond,by',keys,bg,aggs,bi,items,bo,ords,limit⟩:=n
 unfold own13
 simp only
 by_cases h1:op=1
 ·subst h1
  cases left with
  | true=>simp[f_qv,b_qv,LNX.a]
  | false=>
  by_cases hz_cond:cond=[]
  rotate_left
  ·simp[f_qv,b_qv,LNX.a,hz_cond,len_pos hz_cond,len_posN hz_cond,len_ne hz_cond,isEmpty_f hz_cond]
  subst hz_cond
  by_cases hz_keys:keys=[]
  rotate_left
  ·simp[f_qv,b_qv,LNX.a,hz_keys,len_pos hz_keys,len_posN hz_keys,len_ne hz_keys,isEmpty_f hz_keys]
  subst hz_keys
  by_cases hz_aggs:aggs=[]
  rotate_left
  ·simp[f_qv,b_qv,LNX.a,hz_aggs,len_pos hz_aggs,len_posN hz_aggs,len_ne hz_aggs,isEmpty_f hz_aggs]
  subst hz_aggs
  by_cases hz_items:items=[]
  rotate_left
  ·simp[f_qv,b_qv,LNX.a,hz_items,len_pos hz_items,len_posN hz_items,len_ne hz_items,isEmpty_f hz_items]
  subst hz_items
  by_cases hz_ords:ords=[]
  rotate_left
  ·simp[f_qv,b_qv,LNX.a,hz_ords,len_pos hz_ords,len_posN hz_ords,len_ne hz_ords,isEmpty_f hz_ords,beq_f (len_ne hz_ords)]
  subst hz_ords
  by_cases hz_limit:limit=0
  rotate_left
  ·simp[f_qv,b_qv,LNX.a,hz_limit,bne_t hz_limit,beq_f hz_limit]
  subst hz_limit
  simp[f_qv,b_qv,LNX.a]
 by_cases h2:op=2
 ·subst h2
  by_cases hz_tab:tab=0
  rotate_left
  ·simp[f_qv,b_qv,LNX.a,hz_tab,bne_t hz_tab,beq_f hz_tab]
  subst hz_tab
  by_cases hz_kinds:kinds=[]
  rotate_left
  ·simp[f_qv,b_qv,LNX.a,hz_kinds,len_pos hz_kinds,len_posN hz_kinds,len_ne hz_kinds,isEmpty_f hz_kinds]
  subst hz_kinds
  by_cases hz_keys:keys=[]
  rotate_left
  ·simp[f_qv,b_qv,LNX.a,hz_keys,len_pos hz_keys,len_posN hz_keys,len_ne hz_keys,isEmpty_f hz_keys]
  subst hz_keys
  by_cases hz_aggs:aggs=[]
  rotate_left
  ·simp[f_qv,b_qv,LNX.a,hz_aggs,len_pos hz_aggs,len_posN hz_aggs,len_ne hz_aggs,isEmpty_f hz_aggs]
  subst hz_aggs
  by_cases hz_items:items=[]
  rotate_left
  ·simp[f_qv,b_qv,LNX.a,hz_items,len_pos hz_items,len_posN hz_items,len_ne hz_items,isEmpty_f hz_items]
  subst hz_items
  by_cases hz_ords:ords=[]
  rotate_left
  ·simp[f_qv,b_qv,LNX.a,hz_ords,len_pos hz_ords,len_posN hz_ords,len_ne hz_ords,isEmpty_f hz_ords,beq_f (len_ne hz_ords)]
  subst hz_ords
  by_cases hz_limit:limit=0
  rotate_left
  ·simp[f_qv,b_qv,LNX.a,hz_limit,bne_t hz_limit,beq_f hz_limit]
  subst hz_limit
  simp[f_qv,b_qv,LNX.a]
 by_cases h3:op=3
 ·subst h3
  by_cases hz_tab:tab=0
  rotate_left
  ·simp[f_qv,b_qv,LNX.a,hz_tab,bne_t hz_tab,beq_f hz_tab]
  subst hz_tab
  by_cases hz_kinds:kinds=[]
  rotate_left
  ·simp[f_qv,b_qv,LNX.a,hz_kinds,len_pos hz_kinds,len_posN hz_kinds,len_ne hz_kinds,isEmpty_f hz_kinds]
  subst hz_kinds
  cases left with
  | true=>simp[f_qv,b_qv,LNX.a]
  | false=>
  by_cases hz_keys:keys=[]
  rotate_left
  ·simp[f_qv,b_qv,LNX.a,hz_keys,len_pos hz_keys,len_posN hz_keys,len_ne hz_keys,isEmpty_f hz_keys]
  subst hz_keys
  by_cases hz_aggs:aggs=[]
  rotate_left
  ·simp[f_qv,b_qv,LNX.a,hz_aggs,len_pos hz_aggs,len_posN hz_aggs,len_ne hz_aggs,isEmpty_f hz_aggs]
  subst hz_aggs
  by_cases hz_items:items=[]
  rotate_left
  ·simp[f_qv,b_qv,LNX.a,hz_items,len_pos hz_items,len_posN hz_items,len_ne hz_items,isEmpty_f hz_items]
  subst hz_items
  by_cases hz_ords:ords=[]
  rotate_left
  ·simp[f_qv,b_qv,LNX.a,hz_ords,len_pos hz_ords,len_posN hz_ords,len_ne hz_ords,isEmpty_f hz_ords,beq_f (len_ne hz_ords)]
  subst hz_ords
  by_cases hz_limit:limit=0
  rotate_left
  ·simp[f_qv,b_qv,LNX.a,hz_limit,bne_t hz_limit,beq_f hz_limit]
  subst hz_limit
  simp[f_qv,b_qv,LNX.a]
 by_cases h4:op=4
 ·subst h4
  by_cases hz_tab:tab=0
  rotate_left
  ·simp[f_qv,b_qv,LNX.a,hz_tab,bne_t hz_tab,beq_f hz_tab]
  subst hz_tab
  by_cases hz_kinds:kinds=[]
  rotate_left
  ·simp[f_qv,b_qv,LNX.a,hz_kinds,len_pos hz_kinds,len_posN hz_kinds,len_ne hz_kinds,isEmpty_f hz_kinds]
  subst hz_kinds
  cases left with
  | true=>simp[f_qv,b_qv,LNX.a]
  | false=>
  by_cases hz_cond:cond=[]
  rotate_left
  ·simp[f_qv,b_qv,LNX.a,hz_cond,len_pos hz_cond,len_posN hz_cond,len_ne hz_cond,isEmpty_f hz_cond]
  subst hz_cond
  by_cases hz_items:items=[]
  rotate_left
  ·simp[f_qv,b_qv,LNX.a,hz_items,len_pos hz_items,len_posN hz_items,len_ne hz_items,isEmpty_f hz_items]
  subst hz_items
  by_cases hz_ords:ords=[]
  rotate_left
  ·simp[f_qv,b_qv,LNX.a,hz_ords,len_pos hz_ords,len_posN hz_ords,len_ne hz_ords,isEmpty_f hz_ords,beq_f (len_ne hz_ords)]
  subst hz_ords
  by_cases hz_limit:limit=0
  rotate_left
  ·simp[f_qv,b_qv,LNX.a,hz_limit,bne_t hz_limit,beq_f hz_limit]
  subst hz_limit
  simp[f_qv,b_qv,LNX.a]
 by_cases h5:op=5
 ·subst h5
  by_cases hz_tab:tab=0
  rotate_left
  ·simp[f_qv,b_qv,LNX.a,hz_tab,bne_t hz_tab,beq_f hz_tab]
  subst hz_tab
  by_cases hz_kinds:kinds=[]
  rotate_left
  ·simp[f_qv,b_qv,LNX.a,hz_kinds,len_pos hz_kinds,len_posN hz_kinds,len_ne hz_kinds,isEmpty_f hz_kinds]
  subst hz_kinds
  cases left with
  | true=>simp[f_qv,b_qv,LNX.a]
  | false=>
  by_cases hz_cond:cond=[]
  rotate_left
  ·simp[f_qv,b_qv,LNX.a,hz_cond,len_pos hz_cond,len_posN hz_cond,len_ne hz_cond,isEmpty_f hz_cond]
  subst hz_cond
  by_cases hz_keys:keys=[]
  rotate_left
  ·simp[f_qv,b_qv,LNX.a,hz_keys,len_pos hz_keys,len_posN hz_keys,len_ne hz_keys,isEmpty_f hz_keys]
  subst hz_keys
  by_cases hz_aggs:aggs=[]
  rotate_left
  ·simp[f_qv,b_qv,LNX.a,hz_aggs,len_pos hz_aggs,len_posN hz_aggs,len_ne hz_aggs,isEmpty_f hz_aggs]
  subst hz_aggs
  by_cases hz_ords:ords=[]
  rotate_left
  ·simp[f_qv,b_qv,LNX.a,hz_ords,len_pos hz_ords,len_posN hz_ords,len_ne hz_ords,isEmpty_f hz_ords,beq_f (len_ne hz_ords)]
  subst hz_ords
  by_cases hz_limit:limit=0
  rotate_left
  ·simp[f_qv,b_qv,LNX.a,hz_limit,bne_t hz_limit,beq_f hz_limit]
  subst hz_limit
  simp[f_qv,b_qv,LNX.a]
 by_cases h8:op=8
 ·subst h8
  by_cases hz_tab:tab=0
  rotate_left
  ·simp[f_qv,b_qv,LNX.a,hz_tab,bne_t hz_tab,beq_f hz_tab]
  subst hz_tab
  by_cases hz_kinds:kinds=[]
  rotate_left
  ·simp[f_qv,b_qv,LNX.a,hz_kinds,len_pos hz_kinds,len_posN hz_kinds,len_ne hz_kinds,isEmpty_f hz_kinds]
  subst hz_kinds
  cases left with
  | true=>simp[f_qv,b_qv,LNX.a]
  | false=>
  by_cases hz_cond:cond=[]
  rotate_left
  ·simp[f_qv,b_qv,LNX.a,hz_cond,len_pos hz_cond,len_posN hz_cond,len_ne hz_cond,isEmpty_f hz_cond]
  subst hz_cond
  by_cases hz_keys:keys=[]
  rotate_left
  ·simp[f_qv,b_qv,LNX.a,hz_keys,len_pos hz_keys,len_posN hz_keys,len_ne hz_keys,isEmpty_f hz_keys]
  subst hz_keys
  by_cases hz_aggs:aggs=[]
  rotate_left
  ·simp[f_qv,b_qv,LNX.a,hz_aggs,len_pos hz_aggs,len_posN hz_aggs,len_ne hz_aggs,isEmpty_f hz_aggs]
  subst hz_aggs
  by_cases hz_items:items=[]
  rotate_left
  ·simp[f_qv,b_qv,LNX.a,hz_items,len_pos hz_items,len_posN hz_items,len_ne hz_items,isEmpty_f hz_items]
  subst hz_items
  simp[f_qv,b_qv,LNX.a]
 by_cases hz_tab:tab=0
 rotate_left
 ·simp[f_qv,b_qv,LNX.a,h1,bne_t h1,beq_f h1,h2,bne_t h2,beq_f h2,h3,bne_t h3,beq_f h3,h4,bne_t h4,beq_f h4,h5,bne_t h5,beq_f h5,h8,bne_t h8,beq_f h8,hz_tab,bne_t hz_tab,beq_f hz_tab]
 subst hz_tab
 by_cases hz_kinds:kinds=[]
 rotate_left
 ·simp[f_qv,b_qv,LNX.a,h1,bne_t h1,beq_f h1,h2,bne_t h2,beq_f h2,h3,bne_t h3,beq_f h3,h4,bne_t h4,beq_f h4,h5,bne_t h5,beq_f h5,h8,bne_t h8,beq_f h8,hz_kinds,len_pos hz_kinds,len_posN hz_kinds,len_ne hz_kinds,isEmpty_f hz_kinds]
 subst hz_kinds
 cases left with
 | true=>simp[f_qv,b_qv,LNX.a,h1,bne_t h1,beq_f h1,h2,bne_t h2,beq_f h2,h3,bne_t h3,beq_f h3,h4,bne_t h4,beq_f h4,h5,bne_t h5,beq_f h5,h8,bne_t h8,beq_f h8]
 | false=>
 by_cases hz_cond:cond=[]
 rotate_left
 ·simp[f_qv,b_qv,LNX.a,h1,bne_t h1,beq_f h1,h2,bne_t h2,beq_f h2,h3,bne_t h3,beq_f h3,h4,bne_t h4,beq_f h4,h5,bne_t h5,beq_f h5,h8,bne_t h8,beq_f h8,hz_cond,len_pos hz_cond,len_posN hz_cond,len_ne hz_cond,isEmpty_f hz_cond]
 subst hz_cond
 by_cases hz_keys:keys=[]
 rotate_left
 ·simp[f_qv,b_qv,LNX.a,h1,bne_t h1,beq_f h1,h2,bne_t h2,beq_f h2,h3,bne_t h3,beq_f h3,h4,bne_t h4,beq_f h4,h5,bne_t h5,beq_f h5,h8,bne_t h8,beq_f h8,hz_keys,len_pos hz_keys,len_posN hz_keys,len_ne hz_keys,isEmpty_f hz_keys]
 subst hz_keys
 by_cases hz_aggs:aggs=[]
 rotate_left
 ·simp[f_qv,b_qv,LNX.a,h1,bne_t h1,beq_f h1,h2,bne_t h2,beq_f h2,h3,bne_t h3,beq_f h3,h4,bne_t h4,beq_f h4,h5,bne_t h5,beq_f h5,h8,bne_t h8,beq_f h8,hz_aggs,len_pos hz_aggs,len_posN hz_aggs,len_ne hz_aggs,isEmpty_f hz_aggs]
 subst hz_aggs
 by_cases hz_items:items=[]
 rotate_left
 ·simp[f_qv,b_qv,LNX.a,h1,bne_t h1,beq_f h1,h2,bne_t h2,beq_f h2,h3,bne_t h3,beq_f h3,h4,bne_t h4,beq_f h4,h5,bne_t h5,beq_f h5,h8,bne_t h8,beq_f h8,hz_items,len_pos hz_items,len_posN hz_items,len_ne hz_items,isEmpty_f hz_items]
 subst hz_items
 by_cases hz_ords:ords=[]
 rotate_left
 ·simp[f_qv,b_qv,LNX.a,h1,bne_t h1,beq_f h1,h2,bne_t h2,beq_f h2,h3,bne_t h3,beq_f h3,h4,bne_t h4,beq_f h4,h5,bne_t h5,beq_f h5,h8,bne_t h8,beq_f h8,hz_ords,len_pos hz_ords,len_posN hz_ords,len_ne hz_ords,isEmpty_f hz_ords,beq_f (len_ne hz_ords)]
 subst hz_ords
 by_cases hz_limit:limit=0
 rotate_left
 ·simp[f_qv,b_qv,LNX.a,h1,bne_t h1,beq_f h1,h2,bne_t h2,beq_f h2,h3,bne_t h3,beq_f h3,h4,bne_t h4,beq_f h4,h5,bne_t h5,beq_f h5,h8,bne_t h8,beq_f h8,hz_limit,bne_t hz_limit,beq_f hz_limit]
 subst hz_limit
 simp[f_qv,b_qv,LNX.a,h1,bne_t h1,beq_f h1,h2,bne_t h2,beq_f h2,h3,bne_t h3,beq_f h3,h4,bne_t h4,beq_f h4,h5,bne_t h5,beq_f h5,h8,bne_t h8,beq_f h8]
def own18(n:LNX):Bool:=own13 (if n.op=9 then { n with op:=1 } else if n.op=10∨n.op=11 then { n with op:=4 } else n)
theorem own18_v(n:LNX):pcall I.qak [n.a]=some (.bool (own18 n)):=by
 rw[pcall_eq c_qak rfl]
 have h0:=own13_v n
 have h1:=own13_v { n with op:=1 }
 have h4:=own13_v { n with op:=4 }
 unfold own18
 simp only[LNX.a]at h0 h1 h4
 by_cases c1:n.op=9
 ·rw[if_pos c1];simp[f_qak,b_qak,LNX.a,c1,h1]
 ·rw[if_neg c1]
  by_cases c2:n.op=10
  ·rw[if_pos (.inl c2)];simp[f_qak,b_qak,LNX.a,c2,h4]
  ·by_cases c3:n.op=11
   ·rw[if_pos (.inr c3)];simp[f_qak,b_qak,LNX.a,c3,h4]
   ·rw[if_neg (fun h=>h.elim c2 c3)];simp[f_qak,b_qak,LNX.a,beq_f c1,beq_f c2,beq_f c3,h0]
end Go.AM
end
section
namespace Go.AM
open P
set_option maxHeartbeats 32000000
set_option maxRecDepth 8000
attribute [local simp] condRun_if when_if
def sizeK(l:List LNX):Nat→Nat
 | 0=>0
 | m+1=>
  match l[m]? with
  | none=>0
  | some n=>
   if parts18 n.op=0 then (if n.l=-1∧n.r=-1 then 1 else 0)
   else if parts18 n.op=1 then (if n.l=(m:Int) - 1∧n.r=-1∧sizeK l m≠0 then sizeK l m+1 else 0)
   else if parts18 n.op=2 then
    if sizeK l m=0∨n.r≠(m:Int) - 1∨n.l≠(m:Int) - 1 - sizeK l m then 0
    else if sizeK l (m - sizeK l m)=0 then 0 else sizeK l (m - sizeK l m)+sizeK l m+1
   else 0
termination_by m=>m
decreasing_by all_goals omega
theorem sizeK_le(l:List LNX):∀ m,sizeK l m≤m:=by
 intro m
 induction m using Nat.strongRecOn with
 | _ m ih=>
  cases m with
  | zero=>simp[sizeK]
  | succ m=>
   have h1:=ih m (by omega)
   have h2:=ih (m - sizeK l m) (by omega)
   rw[sizeK]
   split
   ·omega
   ·repeat' split
    all_goals omega
theorem size18_v(nodes:List LNX)(hn:nodes.length≤most):∀ m:Nat,∀ b,m≤nodes.length→pcall I.qam [.imm b (nodes.map LNX.a),.int .i64 ((m:Int) - 1)]=some (.int .i64 (sizeK nodes m)):=by
 intro m
 induction m using Nat.strongRecOn with
 | _ m ih=>
  intro b hm
  rw[pcall_eq c_qam rfl]
  cases m with
  | zero=>simp[f_qam,b_qam,sizeK]
  | succ m=>
   have hmm:((m+1:Nat):Int) - 1=(m:Int):=by omega
   rw[hmm]
   have hlt:m < nodes.length:=by omega
   obtain ⟨n,hnn⟩:∃ n,nodes[m]=n:=⟨_,rfl⟩
   have hn':nodes[m]?=some n:=by rw[← hnn];exact List.getElem?_eq_getElem hlt
   have hge:¬((nodes.length:Int)≤m):=by omega
   have hneg:¬((m:Int) < 0):=by omega
   have hp:=parts18_v n.op
   have hw:IntKind.i64.wrap ((m:Int) - 1)=(m:Int) - 1:=wrap64_id (by unfold most at *;omega)
   have hnc:ncells n.a=12:=rfl
   rw[sizeK,hn']
   simp only
   have hle:=sizeK_le nodes m
   have i1:=fun b=>ih m (by omega) b (by omega)
   have i2:=fun b=>ih (m - sizeK nodes m) (by omega) b (by omega)
   obtain ⟨op,l,r,tab,bk,kinds,left,bc,cond,by',keys,bg,aggs,bi,items,bo,ords,limit⟩:=n
   simp only at hp ⊢
   generalize parts18 op=p at *
   by_cases e0:p=0
   ·subst e0
    by_cases hl:l=-1
    ·subst hl
     by_cases hr:r=-1
     ·subst hr;simp[f_qam,b_qam,hge,hneg,hn',LNX.a,hp]
     ·simp[f_qam,b_qam,hge,hneg,hn',LNX.a,hp,hr,beq_f hr]
    ·simp[f_qam,b_qam,hge,hneg,hn',LNX.a,hp,hl,beq_f hl]
   ·by_cases e1:p=1
    ·subst e1
     by_cases z1:sizeK nodes m=0
     ·by_cases hl:l=(m:Int) - 1
      ·subst hl
       by_cases hr:r=-1
       ·subst hr;simp[f_qam,b_qam,hge,hneg,hn',LNX.a,hp,hw,i1,z1]
       ·simp[f_qam,b_qam,hge,hneg,hn',LNX.a,hp,hw,i1,z1,hr,beq_f hr]
      ·simp[f_qam,b_qam,hge,hneg,hn',LNX.a,hp,hw,i1,z1,hl,beq_f hl]
     ·have z1':0 < sizeK nodes m:=by omega
      have hw1:IntKind.i64.wrap ((sizeK nodes m:Int)+1)=(sizeK nodes m:Int)+1:=wrap64_id (by unfold most at *;omega)
      by_cases hl:l=(m:Int) - 1
      ·subst hl
       by_cases hr:r=-1
       ·subst hr;simp[f_qam,b_qam,hge,hneg,hn',LNX.a,hp,hw,hw1,i1,z1,z1']
       ·simp[f_qam,b_qam,hge,hneg,hn',LNX.a,hp,hw,hw1,i1,z1,z1',hr,beq_f hr]
      ·simp[f_qam,b_qam,hge,hneg,hn',LNX.a,hp,hw,hw1,i1,z1,z1',hl,beq_f hl]
    ·by_cases e2:p=2
     ·subst e2
      by_cases z1:sizeK nodes m=0
      ·simp[f_qam,b_qam,hge,hneg,hn',LNX.a,hp,hw,i1,z1]
      ·have z1':¬((sizeK nodes m:Int)=0):=by omega
       generalize hs:sizeK nodes m=q at *
       have hle2:=sizeK_le nodes (m - q)
       have hc2:((m - q:Nat):Int)=(m:Int) - q:=by omega
       rw[hc2]at i2
       have hw2:IntKind.i64.wrap ((m:Int) - 1 - q)=(m:Int) - 1 - q:=wrap64_id (by unfold most at *;omega)
       have hsw:(m:Int) - q - 1=(m:Int) - 1 - q:=by omega
       rw[hsw]at i2
       generalize sizeK nodes (m - q)=f at *
       have hw3:IntKind.i64.wrap ((f:Int)+q)=(f:Int)+q:=wrap64_id (by unfold most at *;omega)
       have hw4:IntKind.i64.wrap ((f:Int)+q+1)=(f:Int)+q+1:=wrap64_id (by unfold most at *;omega)
       by_cases hr:r=(m:Int) - 1
       ·subst hr
        by_cases hl:l=(m:Int) - 1 - q
        ·subst hl
         by_cases z2:f=0
         ·subst z2
          simp[f_qam,b_qam,hge,hneg,hn',LNX.a,hp,hw,i1,z1,z1',beq_f z1',hw2,i2]
         ·have z2':0 < f:=by omega
          simp[f_qam,b_qam,hge,hneg,hn',LNX.a,hp,hw,i1,z1,z1',beq_f z1',hw2,i2,z2,z2',hw3,hw4]
        ·simp[f_qam,b_qam,hge,hneg,hn',LNX.a,hp,hw,i1,z1,z1',beq_f z1',hw2,hl,bne_t hl]
       ·simp[f_qam,b_qam,hge,hneg,hn',LNX.a,hp,hw,i1,z1,z1',beq_f z1',hw2,hr,bne_t hr]
     ·simp[f_qam,b_qam,hge,hneg,hn',LNX.a,hp,e0,e1,e2,beq_f e0,beq_f e1,beq_f e2]
end Go.AM
end
namespace Go.AM
theorem parts18_eq(t:Int):parts18 t=partsF t:=by
 unfold parts18 parts13 partsF
 repeat' split
 all_goals omega
def tileK(l:List LNX):Nat→List Nat→Prop
 | k,[]=>k=0
 | k,p::r=>k=p+1∧0 < sizeK l k∧tileK l (k - sizeK l k) r
theorem sizeK_one{l:List LNX}{m:Nat}{n:LNX}(hn:l[m]?=some n):sizeK l (m+1) =
   if partsF n.op=0 then (if n.l=-1∧n.r=-1 then 1 else 0)
   else if partsF n.op=1 then (if n.l=(m:Int) - 1∧n.r=-1∧sizeK l m≠0 then sizeK l m+1 else 0)
   else if partsF n.op=2 then
    if sizeK l m=0∨n.r≠(m:Int) - 1∨n.l≠(m:Int) - 1 - sizeK l m then 0
    else if sizeK l (m - sizeK l m)=0 then 0 else sizeK l (m - sizeK l m)+sizeK l m+1
   else 0:=by
 rw[sizeK,hn]
 simp only[parts18_eq]
theorem drop_one{o0:List Nat}{p:Nat}:(o0++[p]).drop ((o0++[p]).length - (1:Int).toNat)=[p]∧(o0++[p]).take ((o0++[p]).length - 1)=o0:=by
 have h1:(o0++[p]).length - (1:Int).toNat=o0.length:=by simp
 have h2:(o0++[p]).length - 1=o0.length:=by simp
 rw[h1,h2,List.drop_left,List.take_left]
 exact ⟨rfl,rfl⟩
theorem drop_two{o0:List Nat}{p q:Nat}:(o0++[p,q]).drop ((o0++[p,q]).length - (2:Int).toNat)=[p,q]∧(o0++[p,q]).take ((o0++[p,q]).length - 2)=o0:=by
 have h1:(o0++[p,q]).length - (2:Int).toNat=o0.length:=by simp
 have h2:(o0++[p,q]).length - 2=o0.length:=by simp
 rw[h1,h2,List.drop_left,List.take_left]
 exact ⟨rfl,rfl⟩
theorem pre_tile{l:List LNX}{k:Nat}{n:LNX}(hn:l[k]?=some n){o ps:List Nat}(ht:tileK l k o.reverse)(h:preF n o=some ps) :
  tileK l (k+1) (o.take (o.length - ps.length)++[k]).reverse∧blankF n=true:=by
 have h1:=sizeK_one hn
 unfold preF at h
 split at h
 ·cases h
 ·rename_i hc
  have hb:blankF n=true:=by
   cases hq:blankF n
   ·exact absurd (.inr (.inr hq)) hc
   ·rfl
  have hc2:partsF n.op≤o.length:=by
   have:¬((o.length:Int) < partsF n.op):=fun h=>hc (.inr (.inl h))
   omega
  have hp0:0≤partsF n.op:=by
   have:¬(partsF n.op < 0):=fun h=>hc (.inl h)
   omega
  have hpl:=partsF_le n.op
  clear hc
  refine ⟨?_,hb⟩
  rcases (by omega:partsF n.op=0∨partsF n.op=1∨partsF n.op=2) with hp|hp|hp
  ·rw[hp]at h
   simp only[Int.toNat_zero,Nat.sub_zero,List.drop_length]at h
   split at h
   ·rename_i hlr
    cases h
    rw[if_pos hp,if_pos hlr]at h1
    simp only[List.length_nil,Nat.sub_zero,List.take_length,List.reverse_append]
    refine ⟨rfl,by rw[h1];decide,?_⟩
    rw[h1];simpa using ht
   ·cases h
  ·rw[hp]at h hc2
   obtain ⟨o0,p,rfl⟩:∃ o0 p,o=o0++[p]:=by
    rcases List.eq_nil_or_concat o with h|⟨o0,p,h⟩
    ·subst h;simp at hc2
    ·exact ⟨o0,p,by simpa using h⟩
   rw[drop_one.1]at h
   simp only at h
   rw[List.reverse_append]at ht
   obtain ⟨t1,t2,t3⟩:=ht
   split at h
   ·rename_i hlr
    cases h
    rw[if_neg (show ¬partsF n.op=0 by omega),if_pos hp,if_pos ⟨by omega,hlr.2,by omega⟩]at h1
    simp only[List.length_cons,List.length_nil,Nat.zero_add]
    rw[drop_one.2,List.reverse_append]
    refine ⟨rfl,by rw[h1];omega,?_⟩
    rw[h1,show k+1 - (sizeK l k+1)=k - sizeK l k by omega]
    exact t3
   ·cases h
  ·rw[hp]at h hc2
   obtain ⟨o0,p,q,rfl⟩:∃ o0 p q,o=o0++[p,q]:=by
    rcases List.eq_nil_or_concat o with h|⟨o1,q,h⟩
    ·subst h;simp at hc2
    ·rcases List.eq_nil_or_concat o1 with h'|⟨o0,p,h'⟩
     ·subst h' h;simp at hc2
     ·exact ⟨o0,p,q,by rw[h,h'];simp⟩
   rw[drop_two.1]at h
   simp only at h
   rw[List.reverse_append]at ht
   obtain ⟨t1,t2,t3,t4,t5⟩:=ht
   split at h
   ·rename_i hlr
    cases h
    rw[if_neg (show ¬partsF n.op=0 by omega),if_neg (show ¬partsF n.op=1 by omega),if_pos hp,if_neg (by
     rintro (h|h|h)
     ·omega
     ·exact h (by omega)
     ·exact h (by omega)),if_neg (show ¬sizeK l (k - sizeK l k)=0 by omega)]at h1
    simp only[List.length_cons,List.length_nil,Nat.zero_add]
    rw[drop_two.2,List.reverse_append]
    refine ⟨rfl,by rw[h1];omega,?_⟩
    rw[h1,show k+1 - (sizeK l (k - sizeK l k)+sizeK l k+1)=k - sizeK l k - sizeK l (k - sizeK l k) by omega]
    exact t5
   ·cases h
theorem size_pre{l:List LNX}{k:Nat}{n:LNX}(hn:l[k]?=some n){o:List Nat}(ht:tileK l k o.reverse)(hb:blankF n=true)(hs:sizeK l (k+1)≠0):∃ ps,preF n o=some ps:=by
 have h1:=sizeK_one hn
 have hpl:=partsF_le n.op
 unfold preF
 rcases (by omega:partsF n.op=0∨partsF n.op=1∨partsF n.op=2∨partsF n.op=-1) with hp|hp|hp|hp
 ·rw[if_pos hp]at h1
  split at h1
  ·rename_i hlr
   rw[if_neg (by
    rintro (h|h|h)
    ·omega
    ·omega
    ·rw[hb]at h;cases h),hp]
   simp only[Int.toNat_zero,Nat.sub_zero,List.drop_length,if_pos hlr]
   exact ⟨_,rfl⟩
  ·exact absurd h1 hs
 ·rw[if_neg (show ¬partsF n.op=0 by omega),if_pos hp]at h1
  split at h1
  ·rename_i hlr
   rcases List.eq_nil_or_concat o with h|⟨o0,p,h⟩
   ·subst h
    have:k=0:=ht
    subst this
    exact absurd (by simp[sizeK]) hlr.2.2
   ·rw[List.concat_eq_append]at h
    subst h
    rw[List.reverse_append]at ht
    obtain ⟨t1,t2,t3⟩:=ht
    rw[if_neg (by
     rintro (h|h|h)
     ·omega
     ·rw[hp]at h;simp at h;omega
     ·rw[hb]at h;cases h),hp,drop_one.1]
    simp only
    rw[if_pos ⟨by omega,hlr.2.1⟩]
    exact ⟨_,rfl⟩
  ·exact absurd h1 hs
 ·rw[if_neg (show ¬partsF n.op=0 by omega),if_neg (show ¬partsF n.op=1 by omega),if_pos hp]at h1
  split at h1
  ·exact absurd h1 hs
  ·rename_i z
   split at h1
   ·exact absurd h1 hs
   ·rename_i z2
    have y1:sizeK l k≠0:=fun h=>z (.inl h)
    have y2:n.r=(k:Int) - 1:=Classical.byContradiction fun h=>z (.inr (.inl h))
    have y3:n.l=(k:Int) - 1 - sizeK l k:=Classical.byContradiction fun h=>z (.inr (.inr h))
    rcases List.eq_nil_or_concat o with h|⟨o1,q,h⟩
    ·subst h
     have:k=0:=ht
     subst this
     exact absurd (by simp[sizeK]) y1
    ·rw[List.concat_eq_append]at h
     subst h
     rw[List.reverse_append]at ht
     obtain ⟨t1,t2,t3⟩:=ht
     rcases List.eq_nil_or_concat o1 with h|⟨o0,p,h⟩
     ·subst h
      have:k - sizeK l k=0:=t3
      rw[this]at z2
      exact absurd (by simp[sizeK]) z2
     ·rw[List.concat_eq_append]at h
      subst h
      rw[List.reverse_append]at t3
      obtain ⟨t4,t5,t6⟩:=t3
      rw[List.append_assoc,List.cons_append,List.nil_append]
      rw[if_neg (by
       rintro (h|h|h)
       ·omega
       ·rw[hp]at h;simp at h;omega
       ·rw[hb]at h;cases h),hp,drop_two.1]
      simp only
      rw[if_pos ⟨by omega,by omega⟩]
      exact ⟨_,rfl⟩
 ·rw[if_neg (by omega),if_neg (by omega),if_neg (by omega)]at h1
  exact absurd h1 hs
end Go.AM
namespace Go.AM
theorem isE{α:Type}(l:List α):(l.length == 0)=l.isEmpty:=by cases l<;>rfl
theorem isE2{α β:Type}(l:List α)(m:List β):(((l.length:Int)+m.length) == 0)=(l.isEmpty&&m.isEmpty):=by
 cases l with
 | nil=>cases m with
  | nil=>rfl
  | cons y m=>simp;omega
 | cons x l=>simp;omega
theorem own_blank(n:LNX):own18 n=blankF n:=by
 unfold own18 blankF
 rw[isE,isE,isE,isE,isE2]
 by_cases h9:n.op=9
 ·rw[if_pos h9];unfold own13;simp[h9,Bool.and_assoc]
 ·rw[if_neg h9]
  by_cases h10:n.op=10
  ·rw[if_pos (.inl h10)];unfold own13;simp[h10,Bool.and_assoc]
  ·by_cases h11:n.op=11
   ·rw[if_pos (.inr h11)];unfold own13;simp[h11,Bool.and_assoc]
   ·rw[if_neg (fun h=>h.elim h10 h11)]
    unfold own13
    by_cases h1:n.op=1
    ·simp[h1,Bool.and_assoc]
    by_cases h2:n.op=2
    ·simp[h2,Bool.and_assoc]
    by_cases h3:n.op=3
    ·simp[h3,Bool.and_assoc]
    by_cases h4:n.op=4
    ·simp[h4,Bool.and_assoc]
    by_cases h5:n.op=5
    ·simp[h5,Bool.and_assoc]
    by_cases h8:n.op=8
    ·simp[h8,Bool.and_assoc]
    simp[beq_f h1,beq_f h2,beq_f h3,beq_f h4,beq_f h5,beq_f h8,beq_f h9,beq_f h10,beq_f h11,Bool.and_assoc]
theorem pre_is{l:List LNX}{k:Nat}{n:LNX}(hn:l[k]?=some n){o:List Nat}(ht:tileK l k o.reverse):(preF n o).isSome=(decide (0 < sizeK l (k+1))&&own18 n):=by
 rw[own_blank,Bool.eq_iff_iff]
 constructor
 ·intro h
  obtain ⟨ps,hp⟩:=Option.isSome_iff_exists.1 h
  obtain ⟨t,hb⟩:=pre_tile hn ht hp
  rw[List.reverse_append]at t
  obtain ⟨_,t2,_⟩:=t
  rw[hb];simpa using t2
 ·intro h
  simp only[Bool.and_eq_true,decide_eq_true_eq]at h
  obtain ⟨ps,hp⟩:=size_pre hn ht h.2 (by omega)
  rw[hp];rfl
end Go.AM
section
namespace Go.AM
open P
set_option maxHeartbeats 16000000
set_option maxRecDepth 8000
attribute [local simp] condRun_if when_if
def set18G(nk:Nat)(i:Nat)(a:AggX)(P:List Int):List Int⊕Empty:=.inl (if a.tag=3 then P.set (nk+i) 4 else P)
def set18L(nk:Nat):List AggX→Nat→List Int→List Int
 | [],_,P=>P
 | a::l,i,P=>set18L nk l (i+1) (if a.tag=3 then P.set (nk+i) 4 else P)
theorem set18L_fold(nk:Nat):∀ (l:List AggX) (i:Nat) (P:List Int),foldL (set18G nk) l i P=.inl (set18L nk l i P)
 | [],_,_=>rfl
 | a::l,i,P=>by
  simp only[foldL,set18G,set18L]
  exact set18L_fold nk l (i+1) _
theorem set18L_eq(a ks:List Int)(n:LNX):∀ (m k:Nat),k+m=n.aggs.length→set18L ks.length (n.aggs.drop k) k (curP a ks n k)=curP a ks n n.aggs.length
 | 0,k,h=>by
  have:k=n.aggs.length:=by omega
  subst this
  rw[List.drop_length];rfl
 | m+1,k,h=>by
  have hk:k < n.aggs.length:=by omega
  rw[List.drop_eq_getElem_cons hk]
  simp only[set18L]
  have:=curP_next (a:=a) (ks:=ks) (n:=n) (List.getElem?_eq_getElem hk)
  rw[← this]
  exact set18L_eq a ks n m (k+1) (by omega)
def epI(l:List Int):Nat:=if l=[] then 0 else 1
theorem partial18_v(n:LNX)(bk:Bool)(kinds:List Int)(hk:kinds.length=n.keys.length+n.aggs.length)(hn:kinds.length≤8000) :
  pcall I.qal [n.a,.imm bk (intsA kinds)]=some (.imm false (intsA (set18L n.keys.length n.aggs 0 kinds))):=by
 rw[pcall_eq c_qal rfl]
 have hm:n.aggs.length≤most:=by unfold most;omega
 have hnz:∀ base σ m,fz false true base σ (m+3) n.a=n.a:=fun base σ m=>Ft.ft false true base σ m n rfl
 have hnc:ncells n.a=12:=rfl
 have happ:append 1 (.sl 1 0 0 0) (kinds.map (.int .i64)) [.arr 12 0 [n.a],.arr 1 0 []]=some (.sl 1 (epI kinds) 0 kinds.length,[.arr 12 0 [n.a],.arr 1 (epI kinds) (kinds.map (.int .i64))]):=by
  unfold epI
  by_cases he:kinds=[]
  ·subst he;simp[append]
  ·have h2:kinds.length≤most:=by unfold most;omega
   simp[append,he,h2]
 have h:=rounds_list (base:=2) (clr:=[5,6,10,11]) (b:=l_qal_0) n.aggs
  (fun k (P:List Int)=>⟨[n.a,.imm bk (kinds.map (.int .i64)),.ptr 0 0 0 0,.nil0,.sl 1 (epI kinds) 0 kinds.length,.any,.any,.imm n.bg (n.aggs.map AggX.a),.int .i64 n.aggs.length,.int .i64 k,.any,.any],[.arr 12 0 [n.a],.arr 1 (epI kinds) (P.map (.int .i64))]⟩)
  (fun _ P=>P.length=kinds.length) (set18G n.keys.length)
  (fun P=>(.ext 0,⟨[n.a,.imm bk (kinds.map (.int .i64)),.ptr 0 0 0 0,.nil0,.sl 1 (epI kinds) 0 kinds.length,.any,.any,.imm n.bg (n.aggs.map AggX.a),.int .i64 n.aggs.length,.int .i64 n.aggs.length,.bool false,.any],[.arr 12 0 [n.a],.arr 1 (epI kinds) (P.map (.int .i64))]⟩))
  (fun (r:Empty) _=>r.elim)
  (fun k y P hk' hy hP=>by
   have hlt:((k:Int) < (n.aggs.length:Int)):=by omega
   have hw:IntKind.i64.wrap ((n.keys.length:Int)+(k:Int))=((n.keys.length+k:Nat):Int):=by rw[wrap64_id (by omega)];omega
   obtain ⟨j,hj⟩:∃ j,j=n.keys.length+k:=⟨_,rfl⟩
   unfold set18G
   rw[← hj]at hw ⊢
   have hjl:j < kinds.length:=by omega
   by_cases ht:y.tag=3
   ·simp[l_qal_0,hlt,hy,AggX.a,LNX.a,ht,hw,hjl,hP,wrap_lt hk' hm,roundEnd,freezeObj,List.map_set]
   ·simp[l_qal_0,hlt,hy,AggX.a,LNX.a,ht,beq_f ht,hw,hjl,hP,wrap_lt hk' hm,roundEnd,freezeObj])
  (fun P _=>by simp[l_qal_0]) kinds rfl
 rw[set18L_fold]at h
 obtain ⟨h1,h2⟩:=h
 simp only[LNX.a]at h2 happ
 simp at h2 happ
 have ht:∀ P:List Int,P.length=kinds.length→List.take kinds.length (List.map (AVal.int .i64) P)=List.map (AVal.int .i64) P:=fun P hP=>List.take_of_length_le (by simp[hP])
 have ht':=ht _ h1
 simp[f_qal,b_qal,LNX.a,happ,h2,ht',h1]
end Go.AM
end
section
namespace Go.AM
open P
set_option maxHeartbeats 32000000
set_option maxRecDepth 40000
attribute [local simp] condRun_if when_if
def keyH(a:List Int)(k:Nat)(x:Int)(out:List Int):List Int⊕Unit:=if x=(k:Int)∧a.getD k 0≠4 then .inl (out++[a.getD k 0]) else .inr ()
def aggH(a:List Int)(nk k:Nat)(g:AggX)(out:List Int):List Int⊕Unit:=if finAgg (a.getD (nk+k) 0) g=true then .inl (out++[if g.tag=3 then 2 else a.getD (nk+k) 0]) else .inr ()
abbrev envF1(n:LNX)(bk:Bool)(a:List Int)(ep:Nat)(out:List Int)(k e15:AVal):List AVal:=
 [n.a,.imm bk (a.map (.int .i64)),.ptr 0 0 0 0,.any,.any,.sl 1 ep 0 out.length,.any,.any,.any,.any,.any,.bool false,.imm n.by' (n.keys.map (.int .i64)),.int .i64 n.keys.length,k,e15,.any,.any,.any,.any,.any,.any,.any,.any,.any,.any,.any,.any,.any]
abbrev envF0(n:LNX)(bk:Bool)(a:List Int)(ep:Nat)(out:List Int)(k e20:AVal):List AVal:=
 [n.a,.imm bk (a.map (.int .i64)),.ptr 0 0 0 0,.any,.any,.sl 1 ep 0 out.length,.any,.any,.any,.any,.any,.bool false,.imm n.by' (n.keys.map (.int .i64)),.int .i64 n.keys.length,.int .i64 n.keys.length,.bool false,.any,.imm n.bg (n.aggs.map AggX.a),.int .i64 n.aggs.length,k,e20,.any,.any,.any,.any,.any,.any,.any,.any]
abbrev stF(n:LNX)(ep:Nat)(out:List Int):Store:=[.arr 12 0 [n.a],.arr 1 ep (out.map (.int .i64))]
theorem finL_1(n:LNX)(bk:Bool)(a:List Int)(hn:a.length≤8000)(hl:n.keys.length≤a.length) :
  (∃ out,foldL (keyH a) n.keys 0 []=.inl out∧out.length=n.keys.length∧∃ ep,rounds code 2 [3,4,6,7,15,16] l_qah_1 ⟨envF1 n bk a 0 [] (.int .i64 0) .any,stF n 0 []⟩ =
   some (.ext 0,⟨envF1 n bk a ep out (.int .i64 n.keys.length) (.bool false),stF n ep out⟩)) ∨
  (foldL (keyH a) n.keys 0 []=.inr ()∧∃ s,rounds code 2 [3,4,6,7,15,16] l_qah_1 ⟨envF1 n bk a 0 [] (.int .i64 0) .any,stF n 0 []⟩=some (.ret,s) ∧
   thenLeave .pure [.env 3,.env 4] (some (.ret,s))=some (.tup [.imm false [],.bool false])):=by
 have hm:n.keys.length≤most:=by unfold most;omega
 have key:=rounds_listR (base:=2) (clr:=[3,4,6,7,15,16]) (b:=l_qah_1) n.keys
  (fun k (out:List Int) t=>out.length=k∧∃ ep,t=⟨envF1 n bk a ep out (.int .i64 k) .any,stF n ep out⟩)
  (keyH a)
  (fun out o=>out.length=n.keys.length∧∃ ep,o=(.ext 0,⟨envF1 n bk a ep out (.int .i64 n.keys.length) (.bool false),stF n ep out⟩))
  (fun (_:Unit) o=>∃ s,o=(.ret,s)∧thenLeave .pure [.env 3,.env 4] (some (.ret,s))=some (.tup [.imm false [],.bool false]))
  (fun k y out t hk hy ht=>by
   obtain ⟨ho,ep,rfl⟩:=ht
   have hlt:((k:Int) < (n.keys.length:Int)):=by omega
   have hl1:out.length+1≤most:=by unfold most;omega
   have hi:a[k]?=some (a.getD k 0):=by rw[List.getD_eq_getElem?_getD,List.getElem?_eq_getElem (by omega)];rfl
   obtain ⟨hil,hig⟩:=List.getElem?_eq_some_iff.1 hi
   unfold keyH
   generalize a.getD k 0=z at *
   by_cases hyk:y=(k:Int)
   ·subst hyk
    by_cases hz:z=4
    ·subst hz
     rw[if_neg (fun h=>h.2 rfl)]
     exact ⟨_,by simp[l_qah_1,hlt,hy,hi,hil,hig];rfl,_,rfl,by simp⟩
    ·rw[if_pos ⟨rfl,hz⟩]
     refine ⟨⟨envF1 n bk a (ep+1) (out++[z]) (.int .i64 (k+1:Nat)) .any,stF n (ep+1) (out++[z])⟩,?_,by simp[ho],ep+1,rfl⟩
     simp[envF1,stF,l_qah_1,hlt,hy,hi,hil,hig,beq_f hz,append,hl1,wrap_lt hk hm,roundEnd_same]
   ·rw[if_neg (fun h=>hyk h.1)]
    exact ⟨_,by simp[l_qah_1,hlt,hy,hyk,bne_t hyk];rfl,_,rfl,by simp⟩)
  (fun out t ht=>by
   obtain ⟨ho,ep,rfl⟩:=ht
   exact ⟨_,by simp[l_qah_1],ho,ep,rfl⟩) [] _ ⟨rfl,0,rfl⟩
 rcases hf:foldL (keyH a) n.keys 0 [] with out|u
 ·rw[hf]at key
  obtain ⟨o,h1,h2,ep,rfl⟩:=key
  exact .inl ⟨out,rfl,h2,ep,h1⟩
 ·rw[hf]at key
  obtain ⟨o,h1,s,rfl,h2⟩:=key
  exact .inr ⟨rfl,s,h1,h2⟩
theorem finL_0(n:LNX)(bk:Bool)(a:List Int)(ep0:Nat)(out0:List Int)(hn:a.length≤8000)(hl:n.keys.length+n.aggs.length=a.length)(ho0:out0.length=n.keys.length) :
  (∃ out,foldL (aggH a n.keys.length) n.aggs 0 out0=.inl out∧∃ ep,rounds code 2 [3,4,8,9,10,20,21,22,23,24,25,26,27,28] l_qah_0 ⟨envF0 n bk a ep0 out0 (.int .i64 0) .any,stF n ep0 out0⟩ =
   some (.ext 2,⟨envF0 n bk a ep out (.int .i64 n.aggs.length) (.bool false),stF n ep out⟩)) ∨
  (foldL (aggH a n.keys.length) n.aggs 0 out0=.inr ()∧∃ s,rounds code 2 [3,4,8,9,10,20,21,22,23,24,25,26,27,28] l_qah_0 ⟨envF0 n bk a ep0 out0 (.int .i64 0) .any,stF n ep0 out0⟩=some (.ret,s) ∧
   thenLeave .pure [.env 3,.env 4] (some (.ret,s))=some (.tup [.imm false [],.bool false])):=by
 have hm:n.aggs.length≤most:=by unfold most;omega
 have hnz:∀ base σ m,fz false true base σ (m+3) n.a=n.a:=fun base σ m=>Ft.ft false true base σ m n rfl
 have key:=rounds_listR (base:=2) (clr:=[3,4,8,9,10,20,21,22,23,24,25,26,27,28]) (b:=l_qah_0) n.aggs
  (fun k (out:List Int) t=>out.length=n.keys.length+k∧∃ ep,t=⟨envF0 n bk a ep out (.int .i64 k) .any,stF n ep out⟩)
  (aggH a n.keys.length)
  (fun out o=>∃ ep,o=(.ext 2,⟨envF0 n bk a ep out (.int .i64 n.aggs.length) (.bool false),stF n ep out⟩))
  (fun (_:Unit) o=>∃ s,o=(.ret,s)∧thenLeave .pure [.env 3,.env 4] (some (.ret,s))=some (.tup [.imm false [],.bool false]))
  (fun k y out t hk hy ht=>by
   obtain ⟨ho,ep,rfl⟩:=ht
   have hlt:((k:Int) < (n.aggs.length:Int)):=by omega
   have hl1:out.length+1≤most:=by unfold most;omega
   have hw:IntKind.i64.wrap ((n.keys.length:Int)+(k:Int))=((n.keys.length+k:Nat):Int):=by rw[wrap64_id (by omega)];omega
   unfold aggH
   obtain ⟨j,hj⟩:∃ j,j=n.keys.length+k:=⟨_,rfl⟩
   rw[← hj]at hw ⊢
   have hi:a[j]?=some (a.getD j 0):=by rw[List.getD_eq_getElem?_getD,List.getElem?_eq_getElem (by omega)];rfl
   obtain ⟨hil,hig⟩:=List.getElem?_eq_some_iff.1 hi
   generalize a.getD j 0=z at *
   unfold finAgg
   obtain ⟨t,b,e⟩:=y
   simp only
   by_cases he:e=[]
   ·subst he
    by_cases t12:t=1∨t=2
    ·by_cases hz:z=2
     ·subst hz
      have ht3:¬t=3:=by omega
      rw[if_pos (by simp[t12]),if_neg ht3]
      refine ⟨⟨envF0 n bk a (ep+1) (out++[2]) (.int .i64 (k+1:Nat)) .any,stF n (ep+1) (out++[2])⟩,?_,by simp[ho];omega,ep+1,rfl⟩
      rcases t12 with h|h<;>subst h<;>simp[envF0,stF,l_qah_0,hlt,hy,AggX.a,LNX.a,hw,hi,hil,hig,append,hl1,wrap_lt hk hm,roundEnd,freezeObj]
     ·rw[if_neg (by simp[t12,hz])]
      rcases t12 with h|h<;>subst h<;>exact ⟨_,by simp[l_qah_0,hlt,hy,AggX.a,LNX.a,hw,hi,hil,hig,bne_t hz];rfl,_,rfl,by simp⟩
    ·have n1:¬t=1:=fun h=>t12 (.inl h)
     have n2:¬t=2:=fun h=>t12 (.inr h)
     by_cases t3:t=3
     ·subst t3
      by_cases hz:z=4
      ·subst hz
       rw[if_pos (by simp),if_pos rfl]
       refine ⟨⟨envF0 n bk a (ep+1) (out++[2]) (.int .i64 (k+1:Nat)) .any,stF n (ep+1) (out++[2])⟩,?_,by simp[ho];omega,ep+1,rfl⟩
       simp[envF0,stF,l_qah_0,hlt,hy,AggX.a,LNX.a,hw,hi,hil,hig,append,hl1,wrap_lt hk hm,roundEnd,freezeObj]
      ·rw[if_neg (by simp[hz])]
       exact ⟨_,by simp[l_qah_0,hlt,hy,AggX.a,LNX.a,hw,hi,hil,hig,bne_t hz];rfl,_,rfl,by simp⟩
     ·by_cases t45:t=4∨t=5
      ·by_cases hz:z=4
       ·subst hz
        rw[if_neg (by simp[t12,t3,t45])]
        rcases t45 with h|h<;>subst h<;>exact ⟨_,by simp[l_qah_0,hlt,hy,AggX.a,LNX.a,hw,hi,hil,hig];rfl,_,rfl,by simp⟩
       ·rw[if_pos (by simp[t12,t3,t45,hz]),if_neg t3]
        refine ⟨⟨envF0 n bk a (ep+1) (out++[z]) (.int .i64 (k+1:Nat)) .any,stF n (ep+1) (out++[z])⟩,?_,by simp[ho];omega,ep+1,rfl⟩
        rcases t45 with h|h<;>subst h<;>simp[envF0,stF,l_qah_0,hlt,hy,AggX.a,LNX.a,hw,hi,hil,hig,beq_f hz,append,hl1,wrap_lt hk hm,roundEnd,freezeObj]
      ·have n4:¬t=4:=fun h=>t45 (.inl h)
       have n5:¬t=5:=fun h=>t45 (.inr h)
       rw[if_neg (by simp[t12,t3,t45])]
       exact ⟨_,by simp[l_qah_0,hlt,hy,AggX.a,LNX.a,hw,hi,hil,hig,beq_f n1,beq_f n2,beq_f t3,beq_f n4,beq_f n5];rfl,_,rfl,by simp⟩
   ·have he2:=len_posN he
    rw[if_neg (by simp[he])]
    exact ⟨_,by simp[l_qah_0,hlt,hy,AggX.a,LNX.a,hw,hi,hil,hig,he,he2];rfl,_,rfl,by simp⟩)
  (fun out t ht=>by
   obtain ⟨ho,ep,rfl⟩:=ht
   exact ⟨_,by simp[l_qah_0],ep,rfl⟩) out0 _ ⟨by simp[ho0],ep0,rfl⟩
 rcases hf:foldL (aggH a n.keys.length) n.aggs 0 out0 with out|u
 ·rw[hf]at key
  obtain ⟨o,h1,ep,rfl⟩:=key
  exact .inl ⟨out,rfl,ep,h1⟩
 ·rw[hf]at key
  obtain ⟨o,h1,s,rfl,h2⟩:=key
  exact .inr ⟨rfl,s,h1,h2⟩
end Go.AM
end
section
namespace Go.AM
open P
set_option maxHeartbeats 32000000
set_option maxRecDepth 40000
attribute [local simp] condRun_if when_if
def fin18(n:LNX)(a:List Int):List Int×Bool:=
 if 3 < n.keys.length∨12 < n.aggs.length∨n.keys.length+n.aggs.length≠a.length∨a=[] then ([],false) else
 match foldL (keyH a) n.keys 0 [] with
 | .inr _=>([],false)
 | .inl o=>match foldL (aggH a n.keys.length) n.aggs 0 o with
  | .inl o'=>(o',true)
  | .inr _=>([],false)
theorem final18_v(n:LNX)(bk:Bool)(a:List Int)(hn:a.length≤8000)(h1:n.keys.length≤m32)(h2:n.aggs.length≤m32) :
  pcall I.qah [n.a,.imm bk (intsA a)]=some (.tup [.imm false (intsA (fin18 n a).1),.bool (fin18 n a).2]):=by
 rw[pcall_eq c_qah rfl]
 have hnz:∀ base σ m,fz true false base σ (m+3) n.a=n.a:=fun base σ m=>Ft.ft true false base σ m n rfl
 have h1':n.keys.length≤4294967296:=h1
 have h2':n.aggs.length≤4294967296:=h2
 have hw:IntKind.i64.wrap ((n.keys.length:Int)+(n.aggs.length:Int))=(n.keys.length:Int)+n.aggs.length:=wrap64_id (by omega)
 unfold fin18
 by_cases c1:3 < n.keys.length
 ·rw[if_pos (.inl c1)]
  have c1':(3:Int) < n.keys.length:=by omega
  simp[f_qah,b_qah,LNX.a,c1']
 have c1':¬(3:Int) < n.keys.length:=by omega
 by_cases c2:12 < n.aggs.length
 ·rw[if_pos (.inr (.inl c2))]
  have c2':(12:Int) < n.aggs.length:=by omega
  simp[f_qah,b_qah,LNX.a,c1',c2']
 have c2':¬(12:Int) < n.aggs.length:=by omega
 by_cases c3:n.keys.length+n.aggs.length=a.length
 ·by_cases c4:a=[]
  ·rw[if_pos (.inr (.inr (.inr c4)))]
   subst c4
   have c3n:n.keys.length+n.aggs.length=0:=c3
   have k0:n.keys=[]:=List.eq_nil_of_length_eq_zero (by omega)
   have a0:n.aggs=[]:=List.eq_nil_of_length_eq_zero (by omega)
   have hw0:IntKind.i64.wrap 0=0:=rfl
   simp[f_qah,b_qah,LNX.a,k0,a0,hw0]
  ·rw[if_neg (by
    rintro (h|h|h|h)
    ·exact c1 h
    ·exact c2 h
    ·exact h c3
    ·exact c4 h)]
   have c3':(n.keys.length:Int)+n.aggs.length=a.length:=by omega
   have hwa:IntKind.i64.wrap (a.length:Int)=a.length:=wrap64_id (by omega)
   have c4':¬((a.length:Int)=0):=fun h=>c4 (List.eq_nil_of_length_eq_zero (by omega))
   rcases finL_1 n bk a hn (by omega) with ⟨o,f1,ho,ep,l1⟩|⟨f1,s,l1,v1⟩
   ·rw[f1]
    simp only
    rcases finL_0 n bk a ep o hn c3 ho with ⟨o',f2,ep',l0⟩|⟨f2,s,l0,v0⟩
    ·rw[f2]
     simp only[envF1,envF0,stF,LNX.a]at l1 l0
     simp at l1 l0
     have ht:List.take o'.length (List.map (AVal.int .i64) o')=List.map (AVal.int .i64) o':=List.take_of_length_le (by simp)
     simp[f_qah,b_qah,LNX.a,c1',c2',hw,hwa,c3',c4,c4',beq_f c4',l1,l0,ht]
    ·rw[f2]
     simp only[envF1,envF0,stF,LNX.a]at l1 l0
     simp at l1 l0
     simp[f_qah,b_qah,LNX.a,c1',c2',hw,hwa,c3',c4,c4',beq_f c4',l1,l0,-thenLeave_ret]
     exact v0
   ·rw[f1]
    simp only[envF1,stF,LNX.a]at l1
    simp at l1
    simp[f_qah,b_qah,LNX.a,c1',c2',hw,hwa,c3',c4,c4',beq_f c4',l1,-thenLeave_ret]
    exact v1
 ·rw[if_pos (.inr (.inr (.inl c3)))]
  have c3':¬((n.keys.length:Int)+n.aggs.length=a.length):=by omega
  simp[f_qah,b_qah,LNX.a,c1',c2',hw,c3',bne_t c3']
end Go.AM
end
namespace Go.AM
theorem keyH_fold(a:List Int):∀ (l:List Int) (k:Nat) (out:List Int),k+l.length≤a.length→foldL (keyH a) l k out=if finKeys a k l=true then .inl (out++(a.drop k).take l.length) else .inr ()
 | [],k,out,_=>by simp[foldL,finKeys]
 | x::l,k,out,h=>by
  have hk:k < a.length:=by simp at h;omega
  have ih:=fun o=>keyH_fold a l (k+1) o (by simp at h;omega)
  simp only[foldL,keyH]
  have hg:a.getD k 0=a[k]:=by rw[List.getD_eq_getElem?_getD,List.getElem?_eq_getElem hk];rfl
  by_cases c:x=(k:Int)∧a.getD k 0≠4
  ·rw[if_pos c]
   simp only
   rw[ih]
   have:(x == (k:Int)&&a.getD k 0 != 4)=true:=by
    rw[Bool.and_eq_true,beq_iff_eq,bne_iff_ne];exact c
   have e:finKeys a k (x::l)=finKeys a (k+1) l:=by
    show ((x == (k:Int)&&a.getD k 0 != 4)&&finKeys a (k+1) l)=_
    rw[this,Bool.true_and]
   rw[e,List.length_cons,List.drop_eq_getElem_cons hk,List.take_succ_cons,hg]
   simp
  ·rw[if_neg c]
   have:(x == (k:Int)&&a.getD k 0 != 4)=false:=by
    rw[Bool.eq_false_iff]
    intro h
    simp only[Bool.and_eq_true,beq_iff_eq,bne_iff_ne,ne_eq]at h
    exact c h
   have e:finKeys a k (x::l)=false:=by
    show ((x == (k:Int)&&a.getD k 0 != 4)&&finKeys a (k+1) l)=_
    rw[this,Bool.false_and]
   rw[e];simp
def finMap(a:List Int):Nat→List AggX→List Int
 | _,[]=>[]
 | i,g::r=>(if g.tag=3 then 2 else a.getD i 0)::finMap a (i+1) r
theorem aggH_fold(a:List Int)(nk:Nat):∀ (l:List AggX) (k:Nat) (out:List Int),foldL (aggH a nk) l k out=if finAggs a (nk+k) l=true then .inl (out++finMap a (nk+k) l) else .inr ()
 | [],k,out=>by simp[foldL,finAggs,finMap]
 | g::l,k,out=>by
  have ih:=fun o=>aggH_fold a nk l (k+1) o
  simp only[foldL,aggH,finMap]
  by_cases c:finAgg (a.getD (nk+k) 0) g=true
  ·rw[if_pos c]
   simp only
   have e:finAggs a (nk+k) (g::l)=finAggs a (nk+k+1) l:=by
    show (finAgg (a.getD (nk+k) 0) g&&finAggs a (nk+k+1) l)=_
    rw[c,Bool.true_and]
   rw[ih,e,show nk+(k+1)=nk+k+1 by omega]
   simp
  ·rw[if_neg c]
   have:finAgg (a.getD (nk+k) 0) g=false:=by simpa using c
   have e:finAggs a (nk+k) (g::l)=false:=by
    show (finAgg (a.getD (nk+k) 0) g&&finAggs a (nk+k+1) l)=_
    rw[this,Bool.false_and]
   rw[e];simp
theorem finMap_set(a:List Int):∀ (l:List AggX) (A B:List Int),B.length=l.length→(∀ j,j < B.length→a.getD (A.length+j) 0=B.getD j 0)→finSet A.length l (A++B)=A++finMap a A.length l
 | [],A,B,h,_=>by
  have:B=[]:=List.eq_nil_of_length_eq_zero h
  subst this;simp[finSet,finMap]
 | g::l,A,B,h,hB=>by
  match B,h,hB with
  | b::B,h,hB=>
   have h0:a.getD A.length 0=b:=by have:=hB 0 (by simp);simpa using this
   simp only[finSet,finMap]
   rw[h0]
   have hset:(if g.tag=3 then (A++b::B).set A.length 2 else A++b::B)=(A++[if g.tag=3 then 2 else b])++B:=by
    split
    ·simp
    ·simp
   rw[hset]
   have hl:(A++[if g.tag=3 then 2 else b]).length=A.length+1:=by simp
   have ih:=finMap_set a l (A++[if g.tag=3 then 2 else b]) B (by simpa using h) (fun j hj=>by
    have:=hB (j+1) (by simp;omega)
    rw[hl]
    simpa [Nat.add_assoc,Nat.add_comm 1] using this)
   rw[hl]at ih
   rw[ih]
   simp
theorem fin18_eq(n:LNX)(a:List Int)(h:a≠[]):fin18 n a=if (decide (n.keys.length≤3)&&decide (n.aggs.length≤12)&&n.keys.length+n.aggs.length == a.length)&&(finKeys a 0 n.keys&&finAggs a n.keys.length n.aggs) then (finSet n.keys.length n.aggs a,true) else ([],false):=by
 unfold fin18
 by_cases c:3 < n.keys.length∨12 < n.aggs.length∨n.keys.length+n.aggs.length≠a.length∨a=[]
 ·rw[if_pos c]
  have:(decide (n.keys.length≤3)&&decide (n.aggs.length≤12)&&n.keys.length+n.aggs.length == a.length)=false:=by
   rw[Bool.eq_false_iff]
   intro h'
   simp only[Bool.and_eq_true,decide_eq_true_eq,beq_iff_eq]at h'
   rcases c with c|c|c|c
   ·omega
   ·omega
   ·exact c h'.2
   ·exact h c
  rw[this];rfl
 ·rw[if_neg c]
  have c3:n.keys.length+n.aggs.length=a.length:=Classical.byContradiction fun h=>c (.inr (.inr (.inl h)))
  have c1:n.keys.length≤3:=by
   have:¬3 < n.keys.length:=fun h=>c (.inl h)
   omega
  have c2:n.aggs.length≤12:=by
   have:¬12 < n.aggs.length:=fun h=>c (.inr (.inl h))
   omega
  have:(decide (n.keys.length≤3)&&decide (n.aggs.length≤12)&&n.keys.length+n.aggs.length == a.length)=true:=by simp[c1,c2,c3]
  rw[this,Bool.true_and,keyH_fold a n.keys 0 [] (by omega)]
  cases hk:finKeys a 0 n.keys with
  | false=>rfl
  | true=>
   rw[if_pos rfl]
   simp only[List.nil_append,List.drop_zero,Bool.true_and]
   rw[aggH_fold a n.keys.length n.aggs 0]
   cases ha:finAggs a n.keys.length n.aggs with
   | false=>rfl
   | true=>
    simp only[Nat.add_zero,ha,if_true]
    have hl:(a.take n.keys.length).length=n.keys.length:=by rw[List.length_take];omega
    have:=finMap_set a n.aggs (a.take n.keys.length) (a.drop n.keys.length) (by rw[List.length_drop];omega) (fun j hj=>by
     rw[hl]
     simp[List.getD_eq_getElem?_getD,List.getElem?_drop])
    rw[hl,List.take_append_drop]at this
    rw[this]
end Go.AM
section
namespace Go.AM
open P
set_option maxHeartbeats 32000000
set_option maxRecDepth 8000
attribute [local simp] condRun_if when_if
def sizeT(l:List LNX):Nat→Nat
 | 0=>0
 | m+1=>
  match l[m]? with
  | none=>0
  | some n=>
   if parts13 n.op=0 then (if n.l=-1∧n.r=-1 then 1 else 0)
   else if parts13 n.op=1 then (if n.l=(m:Int) - 1∧n.r=-1∧sizeT l m≠0 then sizeT l m+1 else 0)
   else if parts13 n.op=2 then
    if sizeT l m=0∨n.r≠(m:Int) - 1∨n.l≠(m:Int) - 1 - sizeT l m then 0
    else if sizeT l (m - sizeT l m)=0 then 0 else sizeT l (m - sizeT l m)+sizeT l m+1
   else 0
termination_by m=>m
decreasing_by all_goals omega
theorem sizeT_le(l:List LNX):∀ m,sizeT l m≤m:=by
 intro m
 induction m using Nat.strongRecOn with
 | _ m ih=>
  cases m with
  | zero=>simp[sizeT]
  | succ m=>
   have h1:=ih m (by omega)
   have h2:=ih (m - sizeT l m) (by omega)
   rw[sizeT]
   split
   ·omega
   ·repeat' split
    all_goals omega
theorem size13_v(nodes:List LNX)(hn:nodes.length≤most):∀ m:Nat,∀ b,m≤nodes.length→pcall I.qaa [.agg [.imm b (nodes.map LNX.a)],.int .i64 ((m:Int) - 1)]=some (.int .i64 (sizeT nodes m)):=by
 intro m
 induction m using Nat.strongRecOn with
 | _ m ih=>
  intro b hm
  rw[pcall_eq c_qaa rfl]
  cases m with
  | zero=>simp[f_qaa,b_qaa,sizeT]
  | succ m=>
   have hmm:((m+1:Nat):Int) - 1=(m:Int):=by omega
   rw[hmm]
   have hlt:m < nodes.length:=by omega
   obtain ⟨n,hnn⟩:∃ n,nodes[m]=n:=⟨_,rfl⟩
   have hn':nodes[m]?=some n:=by rw[← hnn];exact List.getElem?_eq_getElem hlt
   have hge:¬((nodes.length:Int)≤m):=by omega
   have hneg:¬((m:Int) < 0):=by omega
   have hp:=parts13_v n.op
   have hw:IntKind.i64.wrap ((m:Int) - 1)=(m:Int) - 1:=wrap64_id (by unfold most at *;omega)
   rw[sizeT,hn']
   simp only
   have hle:=sizeT_le nodes m
   have i1:=fun b=>ih m (by omega) b (by omega)
   have i2:=fun b=>ih (m - sizeT nodes m) (by omega) b (by omega)
   obtain ⟨op,l,r,tab,bk,kinds,left,bc,cond,by',keys,bg,aggs,bi,items,bo,ords,limit⟩:=n
   simp only at hp ⊢
   generalize parts13 op=p at *
   by_cases e0:p=0
   ·subst e0
    by_cases hl:l=-1
    ·subst hl
     by_cases hr:r=-1
     ·subst hr;simp[f_qaa,b_qaa,hge,hneg,hn',LNX.a,hp]
     ·simp[f_qaa,b_qaa,hge,hneg,hn',LNX.a,hp,hr,beq_f hr]
    ·simp[f_qaa,b_qaa,hge,hneg,hn',LNX.a,hp,hl,beq_f hl]
   ·by_cases e1:p=1
    ·subst e1
     by_cases hl:l=(m:Int) - 1
     ·subst hl
      by_cases hr:r=-1
      ·subst hr
       by_cases z1:sizeT nodes m=0
       ·simp[f_qaa,b_qaa,hge,hneg,hn',LNX.a,hp,hw,i1,z1]
       ·have z1':0 < sizeT nodes m:=by omega
        have hw1:IntKind.i64.wrap ((sizeT nodes m:Int)+1)=(sizeT nodes m:Int)+1:=wrap64_id (by unfold most at *;omega)
        simp[f_qaa,b_qaa,hge,hneg,hn',LNX.a,hp,hw,hw1,i1,z1,z1']
      ·simp[f_qaa,b_qaa,hge,hneg,hn',LNX.a,hp,hw,hr,beq_f hr]
     ·simp[f_qaa,b_qaa,hge,hneg,hn',LNX.a,hp,hw,hl,beq_f hl]
    ·by_cases e2:p=2
     ·subst e2
      by_cases hr:r=(m:Int) - 1
      ·subst hr
       by_cases z1:sizeT nodes m=0
       ·simp[f_qaa,b_qaa,hge,hneg,hn',LNX.a,hp,hw,i1,z1]
       ·have z1':0 < sizeT nodes m:=by omega
        generalize hs:sizeT nodes m=q at *
        have hle2:=sizeT_le nodes (m - q)
        have hc2:((m - q:Nat):Int)=(m:Int) - q:=by omega
        rw[hc2]at i2
        have hw2:IntKind.i64.wrap ((m:Int) - 1 - q)=(m:Int) - 1 - q:=wrap64_id (by unfold most at *;omega)
        have hsw:(m:Int) - q - 1=(m:Int) - 1 - q:=by omega
        rw[hsw]at i2
        generalize sizeT nodes (m - q)=f at *
        have hw3:IntKind.i64.wrap ((f:Int)+q)=(f:Int)+q:=wrap64_id (by unfold most at *;omega)
        have hw4:IntKind.i64.wrap ((f:Int)+q+1)=(f:Int)+q+1:=wrap64_id (by unfold most at *;omega)
        by_cases hl:l=(m:Int) - 1 - q
        ·subst hl
         by_cases z2:f=0
         ·subst z2
          simp[f_qaa,b_qaa,hge,hneg,hn',LNX.a,hp,hw,i1,z1,z1',hw2,i2]
         ·have z2':0 < f:=by omega
          simp[f_qaa,b_qaa,hge,hneg,hn',LNX.a,hp,hw,i1,z1,z1',hw2,i2,z2,z2',hw3,hw4]
        ·simp[f_qaa,b_qaa,hge,hneg,hn',LNX.a,hp,hw,i1,z1,z1',hw2,hl,beq_f hl]
      ·simp[f_qaa,b_qaa,hge,hneg,hn',LNX.a,hp,hw,hr,beq_f hr]
     ·simp[f_qaa,b_qaa,hge,hneg,hn',LNX.a,hp,e0,e1,e2,beq_f e0,beq_f e1,beq_f e2]
end Go.AM
end
section
namespace Go.AM
open P
set_option maxHeartbeats 16000000
set_option maxRecDepth 8000
attribute [local simp] condRun_if when_if
theorem Made10_v(n:EN)(b:Bool):pcall I.ql [n.a,.imm b []]=some (.agg [.imm false [EN.a { n with l:=-1,r:=-1 }]]):=by
 rw[pcall_eq c_ql rfl]
 obtain ⟨t,l,r,c,w⟩:=n
 have h:∀ (e0 e1 e2 e3 e4:AVal) (σ:Store),rounds code 4 [5,6,7,8,12,13,14,15,16,17,18,19] l_ql_1 ⟨[e0,e1,e2,e3,e4,.any,.any,.any,.any,.imm b [],.int .i64 0,.int .i64 0,.any,.any,.any,.any,.any,.any,.any,.any],σ⟩ =
   some (.ext 0,⟨[e0,e1,e2,e3,e4,.any,.any,.any,.any,.imm b [],.int .i64 0,.int .i64 0,.bool false,.any,.any,.any,.any,.any,.any,.any],σ⟩):=fun e0 e1 e2 e3 e4 σ=>by
  rw[rounds_go0]
  simp[l_ql_1]
 simp[f_ql,b_ql,EN.a,append,h,most]
end Go.AM
end
namespace Go.AM
theorem parts_lt{l:List LNX}{k:Nat}{n:LNX}{o ps:List Nat}(h:preF n o=some ps)(ho:∀ p∈o,p < k):∀ p∈ps,p < k:=by
 unfold preF at h
 split at h
 ·cases h
 ·have hm:∀ p∈o.drop (o.length - (partsF n.op).toNat),p < k:=fun p hp=>ho p (List.mem_of_mem_drop hp)
  split at h
  ·split at h
   ·cases h;simp
   ·cases h
  ·rename_i p hd
   rw[hd]at hm
   split at h
   ·cases h;exact hm
   ·cases h
  ·rename_i p q hd
   rw[hd]at hm
   split at h
   ·cases h;exact hm
   ·cases h
  ·cases h
end Go.AM
section
namespace Go.AM
open P
set_option maxHeartbeats 16000000
set_option maxRecDepth 8000
attribute [local simp] condRun_if when_if
abbrev Firm(σ:Store):Prop:=∀ τ b,σ.length≤b→σ.map (freezeObj b τ)=σ
def truncTo(σ τ:Store)(v:AVal):AVal×Store:=if τ.length=σ.length then (v,τ) else (freeze σ.length τ v,(τ.take σ.length).map (freezeObj σ.length τ))
theorem truncTo_app{σ:Store}(h:Firm σ)(o:Obj)(t:Store)(v:AVal):truncTo σ (σ++o::t) v=(freeze σ.length (σ++o::t) v,σ):=by
 unfold truncTo
 rw[if_neg (by simp)]
 rw[List.take_left' rfl,h _ _ (Nat.le_refl _)]
def thenTrunc(σ:Store)(res:List Res)(r:Option (Ex×St)):Option (AVal×Store):=r.bind fun r=>match r.1 with
 | .ext _=>none
 | _=>(results r.2 res).map fun v=>truncTo σ r.2.st v
@[simp] theorem thenTrunc_ret(σ:Store)(res:List Res)(s:St):thenTrunc σ res (some (.ret,s))=(results s res).map fun v=>truncTo σ s.st v:=rfl
@[simp] theorem thenTrunc_nrm(σ:Store)(res:List Res)(s:St):thenTrunc σ res (some (.nrm,s))=(results s res).map fun v=>truncTo σ s.st v:=rfl
theorem acall_trunc{f:Nat}{g:AFunc}(h:code.fns f=.fn g)(hm:g.mode=.trunc)(args:List AVal)(σ:Store) :
  acall code f args σ=thenTrunc σ g.res (run code g.body ⟨args.take g.np++List.replicate (g.nenv - g.np) .any,σ⟩):=by
 rw[acall_fn good h]
 have he:enter g args σ=⟨args.take g.np++List.replicate (g.nenv - g.np) .any,σ⟩:=by unfold enter;rw[hm]
 rw[he]
 unfold thenTrunc
 congr 1
 funext r
 obtain ⟨e,s⟩:=r
 unfold leave finish truncTo
 rw[hm]
 cases e<;>rfl
def IsL(R:AVal)(l:List Int):Prop:=(R=.nil0∧l=[])∨∃ b,R=.imm b (l.map (.int .i64))
theorem isL_imm(b:Bool)(l:List Int):IsL (.imm b (l.map (.int .i64))) l:=.inr ⟨b,rfl⟩
theorem input18_v(n:LNX)(hk:n.kinds.length≤most)(σ:Store)(hσ:Firm σ) :
  acall code I.qai [n.a] σ=some (.tup [.imm n.bk (n.kinds.map (.int .i64)),.bool (inputF n)],σ):=by
 rw[acall_trunc c_qai rfl]
 have hnc:ncells n.a=12:=rfl
 have key:=rounds_fold (base:=σ.length+1) (clr:=[5,9]) (b:=l_qai_0) n.kinds
  (fun k (s:Bool)=>⟨[n.a,.ptr σ.length 0 0 0,.nil0,.bool false,.bool s,.any,.imm n.bk (n.kinds.map (.int .i64)),.int .i64 n.kinds.length,.int .i64 k,.any],σ++[.arr 12 0 [n.a]]⟩)
  (fun _ _=>True) (fun s y=>s&&(decide (0≤y)&&decide (y≤4)))
  (fun s=>(.ext 0,⟨[n.a,.ptr σ.length 0 0 0,.nil0,.bool false,.bool s,.any,.imm n.bk (n.kinds.map (.int .i64)),.int .i64 n.kinds.length,.int .i64 n.kinds.length,.bool false],σ++[.arr 12 0 [n.a]]⟩))
  (fun k y s hk' hy _=>by
   have hlt:((k:Int) < (n.kinds.length:Int)):=by omega
   refine ⟨?_,trivial⟩
   cases s with
   | false=>simp[l_qai_0,hlt,hy,wrap_lt hk' hk,roundEnd_same]
   | true=>
    by_cases h1:0≤y
    ·by_cases h2:y≤4
     ·simp[l_qai_0,hlt,hy,wrap_lt hk' hk,roundEnd_same,h1,h2]
     ·simp[l_qai_0,hlt,hy,wrap_lt hk' hk,roundEnd_same,h1,h2]
    ·simp[l_qai_0,hlt,hy,wrap_lt hk' hk,roundEnd_same,h1])
  (fun s _=>by simp[l_qai_0])
 have hfold:∀ (l:List Int) (s:Bool),l.foldl (fun s y=>s&&(decide (0≤y)&&decide (y≤4))) s=(s&&!(l.any fun k=>decide (k < 0) || decide (4 < k))):=by
  intro l
  induction l with
  | nil=>intro s;simp
  | cons y l ih=>
   intro s
   rw[List.foldl_cons,ih,List.any_cons]
   have e:(decide (0≤y)&&decide (y≤4))=!(decide (y < 0) || decide (4 < y)):=by
    rw[Bool.eq_iff_iff];simp
   rw[e]
   cases s<;>cases (decide (y < 0) || decide (4 < y))<;>simp
 have key2:=fun s=>(key s trivial).1
 simp only[hfold,show ((0:Nat):Int)=0 from rfl]at key2
 unfold inputF
 obtain ⟨op,a,b,tab,bk,kinds,left,bc,cond,by',keys,bg,aggs,bi,items,bo,ords,limit⟩:=n
 simp only[LNX.a]at key2 hnc ⊢
 have k1:=key2 true
 have k0:=key2 false
 by_cases t0:0≤tab
 ·by_cases t1:tab < 30
  ·by_cases t2:kinds=[]
   ·subst t2
    simp at k0
    simp[f_qai,b_qai,t0,t1,k0,truncTo_app hσ,freeze,fuel]
   ·have t2':(1:Int)≤kinds.length:=by
     have:kinds.length≠0:=fun h=>t2 (List.eq_nil_of_length_eq_zero h)
     omega
    have t2'':0 < kinds.length:=by omega
    by_cases t3:kinds.length≤16
    ·have t3':(kinds.length:Int)≤16:=by omega
     simp at k1
     simp[f_qai,b_qai,t0,t1,t2',t2'',t3,t3',k1,truncTo_app hσ,freeze,fuel]
    ·have t3':¬(kinds.length:Int)≤16:=by omega
     simp at k0
     simp[f_qai,b_qai,t0,t1,t2',t2'',t3,t3',k0,truncTo_app hσ,freeze,fuel]
  ·simp at k0
   simp[f_qai,b_qai,t0,t1,k0,truncTo_app hσ,freeze,fuel]
 ·simp at k0
  simp[f_qai,b_qai,t0,k0,truncTo_app hσ,freeze,fuel]
end Go.AM
end
section
namespace Go.AM
open P
set_option maxHeartbeats 32000000
set_option maxRecDepth 8000
attribute [local simp] condRun_if when_if
abbrev E13(N:AVal)(s:Nat)(A B e4 e5 e6 e7 e8 e9 e10 e11 e12 e13 e14 e15 e16 e17 e18 e19 e20 e21 e22 e23 e24 e25 e26 e27 e28 e29 e30 e31 e32 e33 e34 e35:AVal):List AVal:=
 [N,A,B,.ptr s 0 0 0,e4,e5,e6,e7,e8,e9,e10,e11,e12,e13,e14,e15,e16,e17,e18,e19,e20,e21,e22,e23,e24,e25,e26,e27,e28,e29,e30,e31,e32,e33,e34,e35]
abbrev S13(σ:Store)(N:AVal)(ep:Nat)(out:List Int):Store:=σ++[.arr 12 0 [N],.arr 1 ep (out.map (.int .i64))]
theorem fold_all{α:Type}(p:α→Bool):∀ (l:List α) (s:Bool),l.foldl (fun s y=>s&&p y) s=(s&&l.all p)
 | [],s=>by simp
 | y::l,s=>by rw[List.foldl_cons,fold_all p l,List.all_cons,Bool.and_assoc]
abbrev N1(l r tab:Int)(bk:Bool)(kinds:List Int)(c5 c6 c7 c8 c9 c10 c11:AVal):AVal:=.agg [.int .i64 1,.int .i64 l,.int .i64 r,.int .i64 tab,.imm bk (kinds.map (.int .i64)),c5,c6,c7,c8,c9,c10,c11]
def scanK(tab:Int)(kinds:List Int):Bool:=!(kinds.any fun k=>decide (k < 1) || decide (3 < k))&&decide (0≤tab)&&decide (tab < 4)&&decide (0 < kinds.length)&&decide (kinds.length≤4)
theorem k13_1c(l r tab:Int)(bk:Bool)(kinds:List Int)(c5 c6 c7 c8 c9 c10 c11 A B:AVal)(hk:kinds.length≤most)(σ:Store)(hσ:Firm σ) :
  acall code I.qac [N1 l r tab bk kinds c5 c6 c7 c8 c9 c10 c11,A,B] σ=some (.tup [.imm bk (kinds.map (.int .i64)),.bool (scanK tab kinds)],σ):=by
 rw[acall_trunc c_qac rfl]
 have key:=rounds_fold (base:=σ.length+2) (clr:=[21]) (b:=l_qac_1) kinds
  (fun k (s:Bool)=>⟨E13 (N1 l r tab bk kinds c5 c6 c7 c8 c9 c10 c11) σ.length A B .nil0 (.bool false) (.sl (σ.length+1) 0 0 0) (.bool s) (.int .i64 k) .any .any .any .any .any .any .any .any .any .any (.int .i64 1) (.bool true) .any .any .any .any .any .any .any .any .any .any .any .any .any .any .any,S13 σ (N1 l r tab bk kinds c5 c6 c7 c8 c9 c10 c11) 0 []⟩)
  (fun _ _=>True) (fun s y=>s&&(decide (1≤y)&&decide (y≤3)))
  (fun s=>(.ext 1,⟨E13 (N1 l r tab bk kinds c5 c6 c7 c8 c9 c10 c11) σ.length A B .nil0 (.bool false) (.sl (σ.length+1) 0 0 0) (.bool s) (.int .i64 kinds.length) .any .any .any .any .any .any .any .any .any .any (.int .i64 1) (.bool true) (.bool false) .any .any .any .any .any .any .any .any .any .any .any .any .any .any,S13 σ (N1 l r tab bk kinds c5 c6 c7 c8 c9 c10 c11) 0 []⟩))
  (fun k y s hk' hy _=>by
   have hlt:((k:Int) < (kinds.length:Int)):=by omega
   refine ⟨?_,trivial⟩
   cases s with
   | false=>simp[E13,S13,l_qac_1,hlt,hy,wrap_lt hk' hk,roundEnd_same]
   | true=>
    by_cases h1:1≤y
    ·by_cases h2:y≤3
     ·simp[E13,S13,l_qac_1,hlt,hy,wrap_lt hk' hk,roundEnd_same,h1,h2]
     ·simp[E13,S13,l_qac_1,hlt,hy,wrap_lt hk' hk,roundEnd_same,h1,h2]
    ·simp[E13,S13,l_qac_1,hlt,hy,wrap_lt hk' hk,roundEnd_same,h1])
  (fun s _=>by simp[E13,S13,l_qac_1])
 have key2:=fun s=>(key s trivial).1
 simp only[fold_all,show ((0:Nat):Int)=0 from rfl]at key2
 have k1:=key2 true
 have e:(kinds.all fun y=>decide (1≤y)&&decide (y≤3))=!(kinds.any fun k=>decide (k < 1) || decide (3 < k)):=by
  rw[List.not_any_eq_all_not]
  congr 1
  funext y
  rw[Bool.eq_iff_iff];simp
 rw[Bool.true_and,e]at k1
 unfold scanK
 simp only[E13,S13]at k1
 generalize (kinds.any fun k=>decide (k < 1) || decide (3 < k))=q at *
 simp at k1
 cases q with
 | true=>simp[f_qac,b_qac,k1,truncTo_app hσ,freeze,fuel]
 | false=>
  by_cases t0:0≤tab
  ·by_cases t1:tab < 4
   ·have t1':tab≤3:=by omega
    by_cases t2:kinds=[]
    ·subst t2
     simp at k1
     simp[f_qac,b_qac,k1,t0,t1,t1',truncTo_app hσ,freeze,fuel]
    ·have t2':(1:Int)≤kinds.length:=by
      have:kinds.length≠0:=fun h=>t2 (List.eq_nil_of_length_eq_zero h)
      omega
     have t2'':0 < kinds.length:=by omega
     by_cases t3:kinds.length≤4
     ·have t3':(kinds.length:Int)≤4:=by omega
      simp[f_qac,b_qac,k1,t0,t1,t1',t2',t2'',t3,t3',truncTo_app hσ,freeze,fuel]
     ·have t3':¬(kinds.length:Int)≤4:=by omega
      simp[f_qac,b_qac,k1,t0,t1,t1',t2',t2'',t3,t3',truncTo_app hσ,freeze,fuel]
   ·have t1':¬tab≤3:=by omega
    simp[f_qac,b_qac,k1,t0,t1,t1',truncTo_app hσ,freeze,fuel]
  ·simp[f_qac,b_qac,k1,t0,truncTo_app hσ,freeze,fuel]
theorem k13_1(n:LNX)(A B:AVal)(h1:n.op=1)(hk:n.kinds.length≤most)(σ:Store)(hσ:Firm σ) :
  acall code I.qac [n.a,A,B] σ=some (.tup [.imm n.bk (n.kinds.map (.int .i64)),.bool (scanF n)],σ):=by
 have h:=k13_1c n.l n.r n.tab n.bk n.kinds (.bool n.left) (.imm n.bc (n.cond.map EN.a)) (.imm n.by' (n.keys.map (.int .i64))) (.imm n.bg (n.aggs.map AggX.a)) (.imm n.bi (n.items.map ExX.a)) (.imm n.bo (n.ords.map ordA)) (.int .i64 n.limit) A B hk σ hσ
 rw[show n.a=N1 n.l n.r n.tab n.bk n.kinds (.bool n.left) (.imm n.bc (n.cond.map EN.a)) (.imm n.by' (n.keys.map (.int .i64))) (.imm n.bg (n.aggs.map AggX.a)) (.imm n.bi (n.items.map ExX.a)) (.imm n.bo (n.ords.map ordA)) (.int .i64 n.limit) by simp[LNX.a,h1]]
 exact h
theorem k13_2(n:LNX)(ba bb:Bool)(a b:List Int)(h1:n.op=2)(hc:n.cond.length≤most)(ha:a≠[])(hb:b≠[])(hal:a.length≤8000)(hbl:b.length≤8000)(σ:Store)(hσ:Firm σ) :
  acall code I.qac [n.a,.imm ba (intsA a),.imm bb (intsA b)] σ=some (.tup [.imm false (intsA (a++b)),.bool (truthF n.cond (a++b))],σ):=by
 rw[acall_trunc c_qac rfl]
 obtain ⟨op,l,r,tab,bk,kinds,left,bc,cond,by',keys,bg,aggs,bi,items,bo,ords,limit⟩:=n
 simp only at h1 hc
 subst h1
 have ht:=fun b' bk'=>truth13_v b' cond bk' (a++b) hc (by rw[List.length_append];unfold most;omega)
 have h2:a.length≤most:=by unfold most;omega
 have h3:a.length+b.length≤most:=by unfold most;omega
 have htk:List.take (a.length+b.length) (List.map (AVal.int IntKind.i64) (a++b))=List.map (AVal.int IntKind.i64) (a++b):=List.take_of_length_le (by simp)
 simp[f_qac,b_qac,LNX.a,append,ha,hb,h2,h3,htk,ht,truncTo_app hσ,freeze,fuel,-List.map_append,← List.map_append]
theorem k13_3(n:LNX)(ba:Bool)(a:List Int)(B:AVal)(h1:n.op=3)(hc:n.cond.length≤most)(hal:a.length≤8000)(σ:Store)(hσ:Firm σ) :
  acall code I.qac [n.a,.imm ba (intsA a),B] σ=some (.tup [.imm ba (intsA a),.bool (truthF n.cond a)],σ):=by
 rw[acall_trunc c_qac rfl]
 obtain ⟨op,l,r,tab,bk,kinds,left,bc,cond,by',keys,bg,aggs,bi,items,bo,ords,limit⟩:=n
 simp only at h1 hc
 subst h1
 have ht:=fun b' bk'=>truth13_v b' cond bk' a hc (by unfold most;omega)
 simp[f_qac,b_qac,LNX.a,ht,truncTo_app hσ,freeze,fuel]
theorem k13_6(n:LNX)(ba:Bool)(a:List Int)(B:AVal)(h1:n.op=6)(σ:Store)(hσ:Firm σ) :
  acall code I.qac [n.a,.imm ba (intsA a),B] σ=some (.tup [.imm ba (intsA a),.bool true],σ):=by
 rw[acall_trunc c_qac rfl]
 obtain ⟨op,l,r,tab,bk,kinds,left,bc,cond,by',keys,bg,aggs,bi,items,bo,ords,limit⟩:=n
 simp only at h1
 subst h1
 simp[f_qac,b_qac,LNX.a,truncTo_app hσ,freeze,fuel]
theorem k13_8(n:LNX)(ba:Bool)(a:List Int)(B:AVal)(h1:n.op=8)(ho:n.ords.length≤most)(σ:Store)(hσ:Firm σ) :
  acall code I.qac [n.a,.imm ba (intsA a),B] σ=some (.tup [.imm ba (intsA a),.bool (sortF n a)],σ):=by
 rw[acall_trunc c_qac rfl]
 have key:=rounds_fold (base:=σ.length+2) (clr:=[35]) (b:=l_qac_0) n.ords
  (fun k (s:Bool)=>⟨E13 n.a σ.length (.imm ba (intsA a)) B .nil0 (.bool false) (.sl (σ.length+1) 0 0 0) (.bool s) .any .any .any .any .any .any .any .any .any .any (.int .i64 k) (.int .i64 8) (.bool false) .any (.bool false) (.bool false) (.bool false) .any .any .any (.bool false) .any (.bool false) (.bool false) .any .any .any .any,S13 σ n.a 0 []⟩)
  (fun _ _=>True) (fun s y=>s&&(decide (0≤y.1)&&decide (y.1 < (a.length:Int))))
  (fun s=>(.ext 11,⟨E13 n.a σ.length (.imm ba (intsA a)) B .nil0 (.bool false) (.sl (σ.length+1) 0 0 0) (.bool s) .any .any .any .any .any .any .any .any .any .any (.int .i64 n.ords.length) (.int .i64 8) (.bool false) .any (.bool false) (.bool false) (.bool false) .any .any .any (.bool false) .any (.bool false) (.bool false) .any .any .any (.bool false),S13 σ n.a 0 []⟩))
  (fun k y s hk' hy _=>by
   have hlt:((k:Int) < (n.ords.length:Int)):=by omega
   refine ⟨?_,trivial⟩
   cases s with
   | false=>simp[E13,S13,LNX.a,l_qac_0,hlt,hy,ordA,wrap_lt hk' ho,roundEnd_same]
   | true=>
    by_cases h1:0≤y.1
    ·by_cases h2:y.1 < (a.length:Int)
     ·simp[E13,S13,LNX.a,l_qac_0,hlt,hy,ordA,wrap_lt hk' ho,roundEnd_same,h1,h2]
     ·simp[E13,S13,LNX.a,l_qac_0,hlt,hy,ordA,wrap_lt hk' ho,roundEnd_same,h1,h2]
    ·simp[E13,S13,LNX.a,l_qac_0,hlt,hy,ordA,wrap_lt hk' ho,roundEnd_same,h1])
  (fun s _=>by simp[E13,S13,LNX.a,l_qac_0])
 have k1:=(key true trivial).1
 simp only[fold_all,show ((0:Nat):Int)=0 from rfl]at k1
 have e:(n.ords.all fun y=>decide (0≤y.1)&&decide (y.1 < (a.length:Int)))=!(n.ords.any fun o=>decide (o.1 < 0) || decide ((a.length:Int)≤o.1)):=by
  rw[List.not_any_eq_all_not]
  congr 1
  funext y
  rw[Bool.eq_iff_iff];simp
 rw[Bool.true_and,e]at k1
 unfold sortF
 obtain ⟨op,l,r,tab,bk,kinds,left,bc,cond,by',keys,bg,aggs,bi,items,bo,ords,limit⟩:=n
 simp only at h1 ho
 subst h1
 simp only[E13,S13,LNX.a]at k1 ⊢
 try simp only at k1
 generalize (ords.any fun o=>decide (o.1 < 0) || decide ((a.length:Int)≤o.1))=q at *
 simp at k1
 cases q with
 | true=>simp[f_qac,b_qac,k1,truncTo_app hσ,freeze,fuel]
 | false=>
  by_cases t0:ords.length≤3
  ·have t0':(ords.length:Int)≤3:=by omega
   by_cases t1:-1≤limit
   ·by_cases t2:limit≤2147483647
    ·simp[f_qac,b_qac,k1,t0,t0',t1,t2,truncTo_app hσ,freeze,fuel]
    ·simp[f_qac,b_qac,k1,t0,t0',t1,t2,truncTo_app hσ,freeze,fuel]
   ·simp[f_qac,b_qac,k1,t0,t0',t1,truncTo_app hσ,freeze,fuel]
  ·have t0':¬(ords.length:Int)≤3:=by omega
   simp[f_qac,b_qac,k1,t0,t0',truncTo_app hσ,freeze,fuel]
end Go.AM
end
section
namespace Go.AM
open P
set_option maxHeartbeats 32000000
set_option maxRecDepth 8000
attribute [local simp] condRun_if when_if
abbrev itemS(a:List Int)(s:Nat×List Int×Bool)(e:ExX):Nat×List Int×Bool:=(s.1+1,s.2.1++[(kindF e.l a).1],s.2.2&&(kindF e.l a).2 == 0)
theorem itemS_fold(a:List Int):∀ (l:List ExX) (s:Nat×List Int×Bool),l.foldl (itemS a) s=(s.1+l.length,s.2.1++l.map (fun e=>(kindF e.l a).1),s.2.2&&l.all fun e=>(kindF e.l a).2 == 0)
 | [],s=>by simp
 | e::l,s=>by
  rw[List.foldl_cons,itemS_fold a l]
  simp[itemS,Bool.and_assoc,Nat.add_assoc,Nat.add_comm 1]
abbrev N5(c1 c2 c3 c4 c5 c6 c7 c8:AVal)(bi:Bool)(items:List ExX)(c10 c11:AVal):AVal:=.agg [.int .i64 5,c1,c2,c3,c4,c5,c6,c7,c8,.imm bi (items.map ExX.a),c10,c11]
theorem k13_5c(c1 c2 c3 c4 c5 c6 c7 c8:AVal)(bi:Bool)(items:List ExX)(c10 c11:AVal)(ba:Bool)(a:List Int)(B:AVal)(hi:items.length≤8000)(he:∀ e∈items,e.l.length≤most)(hal:a.length≤8000)(σ:Store)(hσ:Firm σ) :
  acall code I.qac [N5 c1 c2 c3 c4 c5 c6 c7 c8 bi items c10 c11,.imm ba (intsA a),B] σ=some (.tup [.imm false (intsA (items.map fun e=>(kindF e.l a).1)),.bool ((items.all fun e=>(kindF e.l a).2 == 0)&&decide (1≤items.length)&&decide (items.length≤16))],σ):=by
 rw[acall_trunc c_qac rfl]
 have hm:items.length≤most:=by unfold most;omega
 have key:=rounds_fold (base:=σ.length+2) (clr:=[14,15,29]) (b:=l_qac_4) items
  (fun k (s:Nat×List Int×Bool)=>⟨E13 (N5 c1 c2 c3 c4 c5 c6 c7 c8 bi items c10 c11) σ.length (.imm ba (intsA a)) B .nil0 (.bool false) (.sl (σ.length+1) s.1 0 s.2.1.length) (.bool s.2.2) .any .any .any .any .any (.int .i64 k) .any .any .any .any .any (.int .i64 5) (.bool false) .any (.bool false) (.bool false) (.bool false) .any .any .any (.bool true) .any .any .any .any .any .any .any,S13 σ (N5 c1 c2 c3 c4 c5 c6 c7 c8 bi items c10 c11) s.1 s.2.1⟩)
  (fun k s=>s.2.1.length=k) (itemS a)
  (fun s=>(.ext 7,⟨E13 (N5 c1 c2 c3 c4 c5 c6 c7 c8 bi items c10 c11) σ.length (.imm ba (intsA a)) B .nil0 (.bool false) (.sl (σ.length+1) s.1 0 s.2.1.length) (.bool s.2.2) .any .any .any .any .any (.int .i64 items.length) .any .any .any .any .any (.int .i64 5) (.bool false) .any (.bool false) (.bool false) (.bool false) .any .any .any (.bool true) (.bool false) .any .any .any .any .any .any,S13 σ (N5 c1 c2 c3 c4 c5 c6 c7 c8 bi items c10 c11) s.1 s.2.1⟩))
  (fun k y s hk' hy hs=>by
   obtain ⟨ep,out,ok⟩:=s
   simp only at hs
   have hlt:((k:Int) < (items.length:Int)):=by omega
   have h5:out.length+1≤most:=by unfold most;omega
   have hkd:=fun b bk=>Kind10_v b y.l bk a (he y (List.mem_of_getElem? hy)) (by unfold most;omega)
   refine ⟨?_,by simp[itemS];omega⟩
   unfold itemS
   generalize kindF y.l a=q at *
   obtain ⟨kk,no⟩:=q
   simp only at hkd ⊢
   cases ok with
   | false=>simp[E13,S13,l_qac_4,hlt,hy,ExX.a,hkd,append,h5,wrap_lt hk' hm,roundEnd_same]
   | true=>
    by_cases h0:no=0
    ·simp[E13,S13,l_qac_4,hlt,hy,ExX.a,hkd,append,h5,wrap_lt hk' hm,roundEnd_same,h0]
    ·simp[E13,S13,l_qac_4,hlt,hy,ExX.a,hkd,append,h5,wrap_lt hk' hm,roundEnd_same,h0,beq_f h0])
  (fun s _=>by simp[E13,S13,l_qac_4]) (0,[],true) rfl
 have k1:=key.1
 rw[itemS_fold]at k1
 simp only[show ((0:Nat):Int)=0 from rfl,List.nil_append,Bool.true_and]at k1
 have hl:(items.map fun e=>(kindF e.l a).1).length=items.length:=by simp
 have hnn:items.length=0↔items=[]:=⟨fun h=>List.eq_nil_of_length_eq_zero h,fun h=>by rw[h];rfl⟩
 generalize hK:(items.map fun e=>(kindF e.l a).1)=K at *
 generalize (items.all fun e=>(kindF e.l a).2 == 0)=q at *
 rw[hl]at k1
 simp only[E13,S13]at k1
 try simp only at k1
 have htk:List.take items.length (List.map (AVal.int IntKind.i64) K)=List.map (AVal.int IntKind.i64) K:=List.take_of_length_le (by simp[hl])
 simp at k1
 have t1:(decide ((1:Int)≤items.length))=decide (1≤items.length):=by rw[Bool.eq_iff_iff];simp;omega
 have t2:(decide ((items.length:Int)≤16))=decide (items.length≤16):=by rw[Bool.eq_iff_iff];simp;omega
 by_cases c1:1≤items.length
 ·have c1':(1:Int)≤items.length:=by omega
  by_cases c2:items.length≤16
  ·have c2':(items.length:Int)≤16:=by omega
   cases q<;>simp[f_qac,b_qac,k1,hl,htk,c1,c1',c2,c2',truncTo_app hσ,freeze,fuel]
  ·have c2':¬(items.length:Int)≤16:=by omega
   cases q<;>simp[f_qac,b_qac,k1,hl,htk,c1,c1',c2,c2',truncTo_app hσ,freeze,fuel]
 ·have c1':¬(1:Int)≤items.length:=by omega
  cases q<;>simp[f_qac,b_qac,k1,hl,htk,c1,c1',truncTo_app hσ,freeze,fuel]
theorem k13_5(n:LNX)(ba:Bool)(a:List Int)(B:AVal)(h1:n.op=5)(hi:n.items.length≤8000)(he:∀ e∈n.items,e.l.length≤most)(hal:a.length≤8000)(σ:Store)(hσ:Firm σ) :
  acall code I.qac [n.a,.imm ba (intsA a),B] σ=some (.tup [.imm false (intsA (n.items.map fun e=>(kindF e.l a).1)),.bool ((n.items.all fun e=>(kindF e.l a).2 == 0)&&decide (1≤n.items.length)&&decide (n.items.length≤16))],σ):=by
 have h:=k13_5c (.int .i64 n.l) (.int .i64 n.r) (.int .i64 n.tab) (.imm n.bk (n.kinds.map (.int .i64))) (.bool n.left) (.imm n.bc (n.cond.map EN.a)) (.imm n.by' (n.keys.map (.int .i64))) (.imm n.bg (n.aggs.map AggX.a)) n.bi n.items (.imm n.bo (n.ords.map ordA)) (.int .i64 n.limit) ba a B hi he hal σ hσ
 rw[show n.a=N5 (.int .i64 n.l) (.int .i64 n.r) (.int .i64 n.tab) (.imm n.bk (n.kinds.map (.int .i64))) (.bool n.left) (.imm n.bc (n.cond.map EN.a)) (.imm n.by' (n.keys.map (.int .i64))) (.imm n.bg (n.aggs.map AggX.a)) n.bi n.items (.imm n.bo (n.ords.map ordA)) (.int .i64 n.limit) by simp[LNX.a,h1]]
 exact h
abbrev un1(k o:Int):Int:=if k=0 then o else k
abbrev unS(b:List Int)(s:Nat×List Int×Bool)(p:Int):Nat×List Int×Bool:=(s.1+1,s.2.1++[un1 p (b.getD s.1 0)],s.2.2&&(b.getD s.1 0 == un1 p (b.getD s.1 0) || b.getD s.1 0 == 0))
theorem k13_7(n:LNX)(ba bb:Bool)(a b:List Int)(h1:n.op=7)(hal:a.length≤8000)(hab:a.length=b.length)(σ:Store)(hσ:Firm σ) :
  acall code I.qac [n.a,.imm ba (intsA a),.imm bb (intsA b)] σ=some (.tup [.imm false (intsA (a.foldl (unS b) (0,[],true)).2.1),.bool (a.foldl (unS b) (0,[],true)).2.2],σ):=by
 rw[acall_trunc c_qac rfl]
 have hm:a.length≤most:=by unfold most;omega
 have key:=rounds_fold (base:=σ.length+2) (clr:=[17,33,34]) (b:=l_qac_5) a
  (fun k (s:Nat×List Int×Bool)=>⟨E13 n.a σ.length (.imm ba (intsA a)) (.imm bb (intsA b)) .nil0 (.bool false) (.sl (σ.length+1) s.1 0 s.2.1.length) (.bool s.2.2) .any .any .any .any .any .any .any .any (.int .i64 k) .any .any (.int .i64 7) (.bool false) .any (.bool false) (.bool false) (.bool false) .any .any .any (.bool false) .any (.bool false) (.bool true) (.bool false) .any .any .any,S13 σ n.a s.1 s.2.1⟩)
  (fun k s=>s.2.1.length=k∧s.1=k) (unS b)
  (fun s=>(.ext 9,⟨E13 n.a σ.length (.imm ba (intsA a)) (.imm bb (intsA b)) .nil0 (.bool false) (.sl (σ.length+1) s.1 0 s.2.1.length) (.bool s.2.2) .any .any .any .any .any .any .any .any (.int .i64 a.length) .any .any (.int .i64 7) (.bool false) .any (.bool false) (.bool false) (.bool false) .any .any .any (.bool false) .any (.bool false) (.bool true) (.bool false) (.bool false) .any .any,S13 σ n.a s.1 s.2.1⟩))
  (fun k y s hk' hy hs=>by
   obtain ⟨ep,out,ok⟩:=s
   simp only at hs
   obtain ⟨hs,rfl⟩:=hs
   have hlt:((ep:Int) < (a.length:Int)):=by omega
   have h5:out.length+1≤most:=by unfold most;omega
   have hb:b[ep]?=some (b.getD ep 0):=by rw[List.getD_eq_getElem?_getD,List.getElem?_eq_getElem (by omega)];rfl
   refine ⟨?_,by simp[unS];omega⟩
   unfold unS un1
   simp only
   generalize b.getD ep 0=o at *
   by_cases hy0:y=0
   ·subst hy0
    cases ok with
    | false=>simp[E13,S13,LNX.a,l_qac_5,hlt,hy,hb,append,h5,wrap_lt hk' hm,roundEnd_same]
    | true=>simp[E13,S13,LNX.a,l_qac_5,hlt,hy,hb,append,h5,wrap_lt hk' hm,roundEnd_same]
   ·rw[if_neg hy0]
    cases ok with
    | false=>simp[E13,S13,LNX.a,l_qac_5,hlt,hy,hb,hy0,beq_f hy0,append,h5,wrap_lt hk' hm,roundEnd_same]
    | true=>
     by_cases ho:o=y
     ·subst ho
      simp[E13,S13,LNX.a,l_qac_5,hlt,hy,hb,hy0,beq_f hy0,append,h5,wrap_lt hk' hm,roundEnd_same]
     ·by_cases ho0:o=0
      ·subst ho0
       simp[E13,S13,LNX.a,l_qac_5,hlt,hy,hb,hy0,ho,beq_f ho,beq_f hy0,append,h5,wrap_lt hk' hm,roundEnd_same]
      ·simp[E13,S13,LNX.a,l_qac_5,hlt,hy,hb,hy0,ho,ho0,beq_f ho,beq_f ho0,beq_f hy0,append,h5,wrap_lt hk' hm,roundEnd_same])
  (fun s _=>by simp[E13,S13,LNX.a,l_qac_5]) (0,[],true) ⟨rfl,rfl⟩
 obtain ⟨k1,k2,k3⟩:=key
 generalize a.foldl (unS b) (0,[],true)=q at *
 obtain ⟨ep,out,ok⟩:=q
 simp only[show ((0:Nat):Int)=0 from rfl]at k1 k2 k3 ⊢
 obtain ⟨op,l,r,tab,bk,kinds,left,bc,cond,by',keys,bg,aggs,bi,items,bo,ords,limit⟩:=n
 simp only at h1
 subst h1
 simp only[E13,S13,LNX.a]at k1 ⊢
 try simp only at k1
 have htk:List.take out.length (List.map (AVal.int IntKind.i64) out)=List.map (AVal.int IntKind.i64) out:=List.take_of_length_le (by simp)
 simp at k1
 have hne:((a.length:Int) != (b.length:Int))=false:=by simp[hab]
 simp[f_qac,b_qac,k1,hne,htk,truncTo_app hσ,freeze,fuel]
theorem k13_7n(n:LNX)(ba bb:Bool)(a b:List Int)(h1:n.op=7)(hab:a.length≠b.length)(σ:Store)(hσ:Firm σ) :
  acall code I.qac [n.a,.imm ba (intsA a),.imm bb (intsA b)] σ=some (.tup [.nil0,.bool false],σ):=by
 rw[acall_trunc c_qac rfl]
 obtain ⟨op,l,r,tab,bk,kinds,left,bc,cond,by',keys,bg,aggs,bi,items,bo,ords,limit⟩:=n
 simp only at h1
 subst h1
 have hne:((a.length:Int) != (b.length:Int))=true:=by simp;omega
 simp[f_qac,b_qac,LNX.a,hne,truncTo_app hσ,freeze,fuel]
abbrev agS(a:List Int)(s:Nat×List Int×Bool)(g:AggX):Nat×List Int×Bool:=(s.1+1,s.2.1++[(agg13 a g).1],s.2.2&&(agg13 a g).2)
theorem agS_fold(a:List Int):∀ (l:List AggX) (s:Nat×List Int×Bool),l.foldl (agS a) s=(s.1+l.length,s.2.1++l.map (fun g=>(agg13 a g).1),s.2.2&&l.all fun g=>(agg13 a g).2)
 | [],s=>by simp
 | e::l,s=>by
  rw[List.foldl_cons,agS_fold a l]
  simp[agS,Bool.and_assoc,Nat.add_assoc,Nat.add_comm 1]
def gr13(n:LNX)(a:List Int):Bool:=(n.aggs.all fun g=>(agg13 a g).2)&&decide (n.keys.length≤3)&&decide (n.aggs.length≤12)&&decide (0 < n.keys.length+n.aggs.length)
theorem k13_4(n:LNX)(ba:Bool)(a:List Int)(B:AVal)(h1:n.op=4)(hk:n.keys.length≤8000)(hg:n.aggs.length≤8000)(he:∀ g∈n.aggs,g.arg.length≤most)(hal:a.length≤8000)(σ:Store)(hσ:Firm σ) :
  acall code I.qac [n.a,.imm ba (intsA a),B] σ=match keysF a n.keys with
   | none=>some (.tup [.nil0,.bool false],σ)
   | some ks=>some (.tup [.imm false (intsA (ks++n.aggs.map fun g=>(agg13 a g).1)),.bool (gr13 n a)],σ):=by
 rw[acall_trunc c_qac rfl]
 have hkm:n.keys.length≤most:=by unfold most;omega
 have hgm:n.aggs.length≤most:=by unfold most;omega
 have h:=rounds_list (base:=σ.length+2) (clr:=[4,5,25,26]) (b:=l_qac_3) n.keys
  (fun k (s:Nat×List Int)=>⟨E13 n.a σ.length (.imm ba (intsA a)) B .any .any (.sl (σ.length+1) s.1 0 s.2.length) (.bool true) .any (.int .i64 k) .any .any .any .any .any .any .any .any .any (.int .i64 4) (.bool false) .any (.bool false) (.bool false) (.bool true) .any .any .any .any .any .any .any .any .any .any .any,S13 σ n.a s.1 s.2⟩)
  (fun k s=>s.2.length=k) (keyG a)
  (fun s=>(.ext 3,⟨E13 n.a σ.length (.imm ba (intsA a)) B .any .any (.sl (σ.length+1) s.1 0 s.2.length) (.bool true) .any (.int .i64 n.keys.length) .any .any .any .any .any .any .any .any .any (.int .i64 4) (.bool false) .any (.bool false) (.bool false) (.bool true) (.bool false) .any .any .any .any .any .any .any .any .any .any,S13 σ n.a s.1 s.2⟩))
  (fun _ o=>∃ s,o=(.ret,s)∧thenTrunc σ [.env 4,.env 5] (some (.ret,s))=some (.tup [.nil0,.bool false],σ))
  (fun k x s hk' hy hs=>by
   obtain ⟨ep,acc⟩:=s
   simp only at hs
   have hlt:((k:Int) < (n.keys.length:Int)):=by omega
   have h5:acc.length+1≤most:=by unfold most;omega
   unfold keyG
   by_cases h1:0≤x
   ·by_cases h2:x < a.length
    ·rw[if_pos ⟨h1,h2⟩]
     refine ⟨?_,by simp;omega⟩
     have e1:¬(x < 0):=by omega
     have e2:¬((a.length:Int)≤x):=by omega
     have e3:a[x.toNat]?=some (a.getD x.toNat 0):=by
      have:x.toNat < a.length:=by omega
      simp[List.getD_eq_getElem?_getD,this]
     generalize a.getD x.toNat 0=w at *
     simp[E13,S13,LNX.a,l_qac_3,hlt,hy,e1,e2,e3,h1,append,h5,wrap_lt hk' hkm,roundEnd_same]
    ·rw[if_neg (fun h=>h2 h.2)]
     have e1:¬(x < 0):=by omega
     have e2:((a.length:Int)≤x):=by omega
     exact ⟨_,by simp[E13,S13,LNX.a,l_qac_3,hlt,hy,e1,e2];rfl,_,rfl,by simp[truncTo_app hσ,freeze,fuel]⟩
   ·rw[if_neg (fun h=>h1 h.1)]
    have e1:(x < 0):=by omega
    exact ⟨_,by simp[E13,S13,LNX.a,l_qac_3,hlt,hy,e1];rfl,_,rfl,by simp[truncTo_app hσ,freeze,fuel]⟩)
  (fun s hs=>by simp[E13,S13,LNX.a,l_qac_3]) (0,[]) rfl
 rw[keyG_fold]at h
 have h2:=fun ks:List Int=>fun hks:ks.length=n.keys.length=>(rounds_fold (base:=σ.length+2) (clr:=[11,12,27]) (b:=l_qac_2) n.aggs
  (fun k (s:Nat×List Int×Bool)=>⟨E13 n.a σ.length (.imm ba (intsA a)) B .any .any (.sl (σ.length+1) s.1 0 s.2.1.length) (.bool s.2.2) .any (.int .i64 n.keys.length) (.int .i64 k) .any .any .any .any .any .any .any .any (.int .i64 4) (.bool false) .any (.bool false) (.bool false) (.bool true) (.bool false) .any .any .any .any .any .any .any .any .any .any,S13 σ n.a s.1 s.2.1⟩)
  (fun k s=>s.2.1.length=n.keys.length+k) (agS a)
  (fun s=>(.ext 5,⟨E13 n.a σ.length (.imm ba (intsA a)) B .any .any (.sl (σ.length+1) s.1 0 s.2.1.length) (.bool s.2.2) .any (.int .i64 n.keys.length) (.int .i64 n.aggs.length) .any .any .any .any .any .any .any .any (.int .i64 4) (.bool false) .any (.bool false) (.bool false) (.bool true) (.bool false) .any (.bool false) .any .any .any .any .any .any .any .any,S13 σ n.a s.1 s.2.1⟩))
  (fun k g s hk' hy hs=>by
   obtain ⟨ep,acc,ok⟩:=s
   simp only at hs
   have hlt:((k:Int) < (n.aggs.length:Int)):=by omega
   have h5:acc.length+1≤most:=by unfold most;omega
   have hkd:=fun bk=>aggregate13_v g bk a (he g (List.mem_of_getElem? hy)) (by unfold most;omega)
   refine ⟨?_,by simp[agS];omega⟩
   unfold agS
   generalize agg13 a g=q at *
   obtain ⟨kk,may⟩:=q
   simp only at hkd ⊢
   cases ok<;>cases may<;>simp[E13,S13,LNX.a,l_qac_2,hlt,hy,AggX.a,hkd,append,h5,wrap_lt hk' hgm,roundEnd_same])
  (fun s hs=>by simp[E13,S13,LNX.a,l_qac_2]) (n.keys.length,ks,true) hks).1
 simp only[agS_fold]at h2
 cases hq:keysF a n.keys with
 | none=>
  rw[hq]at h
  obtain ⟨o,h1',s,rfl,h3⟩:=h
  obtain ⟨op,l,r,tab,bk,kinds,left,bc,cond,by',keys,bg,aggs,bi,items,bo,ords,limit⟩:=n
  simp only at h1
  subst h1
  simp only[E13,S13,LNX.a]at h1' ⊢
  simp only[show ((0:Nat):Int)=0 from rfl]at h1'
  simp at h1'
  simp[f_qac,b_qac,h1',-thenTrunc_ret]
  exact h3
 | some ks=>
  rw[hq]at h
  obtain ⟨_,h1'⟩:=h
  have hks:=keysF_len hq
  have h2':=h2 ks hks
  unfold gr13
  generalize (n.aggs.all fun g=>(agg13 a g).2)=q at *
  generalize hG:(n.aggs.map fun g=>(agg13 a g).1)=G at *
  have hGl:G.length=n.aggs.length:=by rw[← hG];simp
  obtain ⟨op,l,r,tab,bk,kinds,left,bc,cond,by',keys,bg,aggs,bi,items,bo,ords,limit⟩:=n
  simp only at h1 hks hGl hk hg
  subst h1
  simp only[E13,S13,LNX.a]at h1' h2' ⊢
  simp only[show ((0:Nat):Int)=0 from rfl,List.nil_append,Nat.zero_add,Bool.true_and,hks]at h1' h2'
  have htk:List.take (keys.length+aggs.length) (List.map (AVal.int IntKind.i64) (ks++G))=List.map (AVal.int IntKind.i64) (ks++G):=List.take_of_length_le (by simp[hks,hGl])
  simp[hks,hGl,-List.map_append]at h1' h2'
  by_cases c1:keys.length≤3
  ·have c1':(keys.length:Int)≤3:=by omega
   by_cases c2:aggs.length≤12
   ·have c2':(aggs.length:Int)≤12:=by omega
    by_cases c3:0 < keys.length+aggs.length
    ·have c3':(0:Int) < keys.length+aggs.length:=by omega
     cases q<;>simp[f_qac,b_qac,h1',h2',hks,hGl,htk,c1,c1',c2,c2',c3,c3',truncTo_app hσ,freeze,fuel,-List.map_append]
    ·have c3':¬(0:Int) < keys.length+aggs.length:=by omega
     cases q<;>simp[f_qac,b_qac,h1',h2',hks,hGl,htk,c1,c1',c2,c2',c3,c3',truncTo_app hσ,freeze,fuel,-List.map_append]
   ·have c2':¬(aggs.length:Int)≤12:=by omega
    cases q<;>simp[f_qac,b_qac,h1',h2',hks,hGl,htk,c1,c1',c2,c2',truncTo_app hσ,freeze,fuel,-List.map_append]
  ·have c1':¬(keys.length:Int)≤3:=by omega
   cases q<;>simp[f_qac,b_qac,h1',h2',hks,hGl,htk,c1,c1',truncTo_app hσ,freeze,fuel,-List.map_append]
end Go.AM
end
section
namespace Go.AM
open P
set_option maxHeartbeats 32000000
set_option maxRecDepth 8000
attribute [local simp] condRun_if when_if
inductive NK where
 | n (x:LNX)
 | sc
 | pr (at':Int) (a:List Int)
def itemX(x:Int):ExX:=⟨false,[if 0 < x then ⟨2,-1,-1,x - 1,zeroV⟩ else ⟨1,-1,-1,0,zeroV⟩]⟩
def scanX:LNX:=⟨1,-1,-1,0,false,[1,2,3],false,false,[],false,[],false,[],false,[],false,[],0⟩
def projX(p:Int)(a:List Int):LNX:=⟨5,p,-1,0,false,[],false,false,[],false,[],false,[],false,a.map itemX,false,[],0⟩
def NK.x:NK→LNX
 | .n x=>x
 | .sc=>scanX
 | .pr p a=>projX p a
def NK.a:NK→AVal
 | .n x=>x.a
 | .sc=>N1 (-1) (-1) 0 false [1,2,3] (.bool false) .nil0 .nil0 .nil0 .nil0 .nil0 (.int .i64 0)
 | .pr p a=>N5 (.int .i64 p) (.int .i64 (-1)) (.int .i64 0) .nil0 (.bool false) .nil0 .nil0 .nil0 false (a.map itemX) .nil0 (.int .i64 0)
instance:Nc NK.a 12 true:=⟨fun y=>by cases y<;>rfl,fun y=>by cases y<;>rfl⟩
theorem nk_firm(base:Nat)(σ:Store)(m:Nat)(k:NK):fz false true base σ (m+3) k.a=k.a:=by
 cases k with
 | n x=>exact Ft.ft (f:=LNX.a) false true base σ m x rfl
 | sc=>simp[NK.a]
 | pr p a=>simp[NK.a]
theorem nk_snap(base:Nat)(σ:Store)(m:Nat)(k:NK):fz true false base σ (m+3) k.a=k.x.a:=by
 cases k with
 | n x=>exact Ft.ft (f:=LNX.a) true false base σ m x rfl
 | sc=>simp[NK.a,NK.x,scanX,LNX.a]
 | pr p a=>simp[NK.a,NK.x,projX,LNX.a]
@[simp] theorem comp_snapNK(base:Nat)(σ:Store)(m:Nat)(l:List NK):List.map (fz true false base σ (m+3)∘NK.a) l=List.map LNX.a (l.map NK.x):=by
 rw[List.map_map];exact List.map_congr_left fun y _=>nk_snap base σ m y
structure LHas (σ:Store) (id ep:Nat) (nodes:List NK):Prop where
 firm:Firm σ
 lt:id < σ.length
 at':σ[id]?=some (.arr 12 ep (nodes.map NK.a))
 len:nodes.length≤most
abbrev LV(id ep len:Nat):AVal:=.agg [.sl id ep 0 len]
theorem LHas.get{σ:Store}{id ep:Nat}{nodes:List NK}(h:LHas σ id ep nodes)(τ:Store):(σ++τ)[id]?=some (.arr 12 ep (nodes.map NK.a)):=by
 rw[List.getElem?_append_left h.lt,h.at']
theorem Firm.app{σ:Store}(h:Firm σ)(t:Store)(ht:∀ τ b,σ.length+t.length≤b→t.map (freezeObj b τ)=t):Firm (σ++t):=fun τ b hb=>by
 rw[List.length_append]at hb
 rw[List.map_append,h τ b (by omega),ht τ b hb]
theorem LHas.app{σ:Store}{id ep:Nat}{nodes:List NK}(h:LHas σ id ep nodes)(m:Nat)(n:NK):LHas (σ++[.arr 1 0 [LV id ep m],.arr 12 0 [n.a]]) id ep nodes:=
 ⟨h.firm.app _ fun τ b hb=>by
  have:=h.lt
  have h1:id < b:=by omega
  have hnz:∀ m,fz false true b τ (m+3) n.a=n.a:=fun m=>nk_firm b τ m n
  simp[freezeObj,freeze,fuel,hnz,h1],by have:=h.lt;simp;omega,h.get _,h.len⟩
def PartIs(σ:Store)(L:AVal)(x:Int)(R:AVal):Prop:=(x=-1∧R=.nil0)∨(0≤x∧∃ b,∃ l:List Int,R=.imm b (l.map (.int .i64))∧acall code I.qu [L,.int .i64 x] σ=some (.tup [R,.bool true],σ))
theorem Kinds13_core{σ:Store}{id ep:Nat}{nodes:List NK}(h:LHas σ id ep nodes){p:Nat}{n:NK}(hp:nodes[p]?=some n)(hs:sizeT (nodes.map NK.x) (p+1)≠0)(ho:own13 n.x=true){RA RB R:AVal}{ok:Bool}{l:List Int}
  (hA:PartIs (σ++[.arr 1 0 [LV id ep nodes.length],.arr 12 0 [n.a]]) (LV id ep nodes.length) n.x.l RA) (hB:PartIs (σ++[.arr 1 0 [LV id ep nodes.length],.arr 12 0 [n.a]]) (LV id ep nodes.length) n.x.r RB)
  (hk:acall code I.qac [n.a,RA,RB] (σ++[.arr 1 0 [LV id ep nodes.length],.arr 12 0 [n.a]])=some (.tup [R,.bool ok],σ++[.arr 1 0 [LV id ep nodes.length],.arr 12 0 [n.a]])) (hR:IsL R l) (h8:n.x.op=8→p+1=nodes.length) :
  acall code I.qu [LV id ep nodes.length,.int .i64 p] σ=some (if 16 < l.length then .tup [.nil0,.bool false] else .tup [R,.bool ok],σ):=by
 rw[acall_trunc c_qu rfl]
 have hlt:p < nodes.length:=(List.getElem?_eq_some_iff.1 hp).1
 have hsz:=fun b=>size13_v (nodes.map NK.x) (by rw[List.length_map];exact h.len) (p+1) b (by rw[List.length_map];omega)
 have hpp:((p+1:Nat):Int) - 1=(p:Int):=by omega
 rw[hpp]at hsz
 simp only[List.map_map]at hsz
 have hnx:∀ a:NK,ncells a.x.a=ncells a.a:=fun a=>by cases a<;>rfl
 have hsz0:((sizeT (nodes.map NK.x) (p+1):Int) == 0)=false:=by rw[beq_eq_false_iff_ne];omega
 have hown:=own13_v n.x
 rw[ho]at hown
 have hget:=h.get
 have hlt':=h.lt
 have htk:List.take nodes.length (List.map NK.a nodes)=List.map NK.a nodes:=List.take_of_length_le (by simp)
 have hw:IntKind.i64.wrap ((nodes.length:Int) - 1)=(nodes.length:Int) - 1:=wrap64_id (by have:=h.len;unfold most at this;omega)
 have h8':n.x.op=8→((p:Int) != (nodes.length:Int) - 1)=false:=fun h=>by
  have:=h8 h
  simp;omega
 have hfr:=h.firm
 have hc0:(cellsOf n.a)[0]?=some (.int .i64 n.x.op):=by cases n<;>rfl
 have hc1:(cellsOf n.a)[1]?=some (.int .i64 n.x.l):=by cases n<;>rfl
 have hc2:(cellsOf n.a)[2]?=some (.int .i64 n.x.r):=by cases n<;>rfl
 have hnn:ncells n.a=12∧isAgg n.a=true:=⟨Nc.nc n,Nc.ag n⟩
 have hnz:=nk_firm
 have hns:=nk_snap
 have hg:nodes[p]=n:=(List.getElem?_eq_some_iff.1 hp).2
 have hl16:(decide ((16:Int) < (l.length:Int)))=decide (16 < l.length):=by rw[Bool.eq_iff_iff];simp;omega
 generalize sizeT (nodes.map NK.x) (p+1)=z at *
 generalize n.x.op=op at *
 generalize n.x.l=x at *
 generalize n.x.r=y at *
 have hop:∀ q:Bool,(((op == 8)&&((p:Int) != (nodes.length:Int) - 1)) || q)=q:=fun q=>by
  by_cases h:op=8
  ·rw[h8' h];simp
  ·simp[h]
 have hX:∀ (R':AVal),IsL R' l→acall code I.qac [n.a,RA,RB] (σ++[.arr 1 0 [LV id ep nodes.length],.arr 12 0 [n.a]])=some (.tup [R',.bool ok],σ++[.arr 1 0 [LV id ep nodes.length],.arr 12 0 [n.a]]) →
   thenTrunc σ f_qu.res (run code f_qu.body ⟨List.take f_qu.np [LV id ep nodes.length,.int .i64 p]++List.replicate (f_qu.nenv - f_qu.np) .any,σ⟩)=some (if 16 < l.length then .tup [.nil0,.bool false] else .tup [R',.bool ok],σ):=by
  clear hk hR h8
  intro R' hR' hk'
  by_cases c16:16 < l.length
  ·have c16':(16:Int) < l.length:=by omega
   rw[if_pos c16]
   rcases hR' with ⟨rfl,rfl⟩|⟨b,rfl⟩
   ·exact absurd c16 (by simp)
   rcases hA with ⟨rfl,rfl⟩|⟨hx,ba,la,rfl,hA⟩<;>rcases hB with ⟨rfl,rfl⟩|⟨hy,bb,lb,rfl,hB⟩<;>by_cases o8:op=8<;>(try (have h9:=h8' o8))<;>(try subst o8) <;>
    simp[f_qu,b_qu,hget,hlt,htk,hsz,hsz0,hp,hg,hown,hc0,hc1,hc2,hnn,hnz,hns,hnx,hw,truncTo_app hfr,freeze,fuel, *]
  ·have c16':¬(16:Int) < l.length:=by omega
   rw[if_neg c16]
   rcases hR' with ⟨rfl,rfl⟩|⟨b,rfl⟩<;>rcases hA with ⟨rfl,rfl⟩|⟨hx,ba,la,rfl,hA⟩<;>rcases hB with ⟨rfl,rfl⟩|⟨hy,bb,lb,rfl,hB⟩<;>by_cases o8:op=8<;>(try (have h9:=h8' o8))<;>(try subst o8) <;>
    simp[f_qu,b_qu,hget,hlt,htk,hsz,hsz0,hp,hg,hown,hc0,hc1,hc2,hnn,hnz,hns,hnx,hw,truncTo_app hfr,freeze,fuel, *]
 exact hX R hR hk
end Go.AM
end
section
namespace Go.AM
open P
set_option maxHeartbeats 32000000
set_option maxRecDepth 8000
theorem sizeT_one{l:List LNX}{m:Nat}{n:LNX}(hn:l[m]?=some n):sizeT l (m+1) =
   if parts13 n.op=0 then (if n.l=-1∧n.r=-1 then 1 else 0)
   else if parts13 n.op=1 then (if n.l=(m:Int) - 1∧n.r=-1∧sizeT l m≠0 then sizeT l m+1 else 0)
   else if parts13 n.op=2 then
    if sizeT l m=0∨n.r≠(m:Int) - 1∨n.l≠(m:Int) - 1 - sizeT l m then 0
    else if sizeT l (m - sizeT l m)=0 then 0 else sizeT l (m - sizeT l m)+sizeT l m+1
   else 0:=by
 rw[sizeT,hn]
theorem sizeT_sc{nodes:List NK}{p:Nat}(hp:nodes[p]?=some .sc):sizeT (nodes.map NK.x) (p+1)=1:=by
 rw[sizeT_one (n:=scanX) (by rw[List.getElem?_map,hp];rfl)]
 simp[scanX,parts13]
theorem sizeT_pr{nodes:List NK}{p:Nat}{a:List Int}(hp:nodes[p]?=some .sc)(hq:nodes[p+1]?=some (.pr p a)):sizeT (nodes.map NK.x) (p+1+1)=2:=by
 rw[sizeT_one (n:=projX p a) (by rw[List.getElem?_map,hq];rfl),sizeT_sc hp]
 simp[projX,parts13]
theorem Kinds13_sc{σ:Store}{id ep:Nat}{nodes:List NK}(h:LHas σ id ep nodes){p:Nat}(hp:nodes[p]?=some .sc) :
  acall code I.qu [LV id ep nodes.length,.int .i64 p] σ=some (.tup [.imm false ([1,2,3].map (.int .i64)),.bool true],σ):=by
 have h2:=h.app nodes.length .sc
 have hk:=k13_1c (-1) (-1) 0 false [1,2,3] (.bool false) .nil0 .nil0 .nil0 .nil0 .nil0 (.int .i64 0) .nil0 .nil0 (by simp[most]) _ h2.firm
 rw[show scanK 0 [1,2,3]=true by decide]at hk
 have:=Kinds13_core h hp (by rw[sizeT_sc hp];decide) (by decide) (RA:=.nil0) (RB:=.nil0) (.inl ⟨rfl,rfl⟩) (.inl ⟨rfl,rfl⟩) hk (isL_imm _ _) (fun h=>by simp[NK.x,scanX]at h)
 simpa using this
theorem kind_item{x:Int}(h0:0≤x)(h3:x≤3):kindF (itemX x).l [1,2,3]=(x,0):=by
 have:x=0∨x=1∨x=2∨x=3:=by omega
 rcases this with rfl|rfl|rfl|rfl<;>decide
structure Fine (a:List Int):Prop where
 pos:1≤a.length
 most:a.length≤16
 in':∀ x∈a,0≤x∧x≤3
theorem Kinds13_pr{σ:Store}{id ep:Nat}{nodes:List NK}(h:LHas σ id ep nodes){p:Nat}{a:List Int}(hp:nodes[p]?=some .sc)(hq:nodes[p+1]?=some (.pr p a))(ha:Fine a) :
  acall code I.qu [LV id ep nodes.length,.int .i64 ((p+1:Nat):Int)] σ=some (.tup [.imm false (a.map (.int .i64)),.bool true],σ):=by
 have h2:=h.app nodes.length (.pr p a)
 have hk:=k13_5c (.int .i64 p) (.int .i64 (-1)) (.int .i64 0) .nil0 (.bool false) .nil0 .nil0 .nil0 false (a.map itemX) .nil0 (.int .i64 0) false [1,2,3] .nil0 (by rw[List.length_map];have:=ha.most;omega) (fun e he=>by
  obtain ⟨x,_,rfl⟩:=List.mem_map.1 he
  simp[itemX,most]) (by simp) _ h2.firm
 have e1:((a.map itemX).map fun e=>(kindF e.l [1,2,3]).1)=a:=by
  rw[List.map_map]
  conv=>rhs;rw[← List.map_id a]
  refine List.map_congr_left fun x hx=>?_
  have:=kind_item (ha.in' x hx).1 (ha.in' x hx).2
  simp[this]
 have e2:((a.map itemX).all fun e=>(kindF e.l [1,2,3]).2 == 0)=true:=by
  rw[List.all_eq_true]
  intro e he
  obtain ⟨x,hx,rfl⟩:=List.mem_map.1 he
  rw[kind_item (ha.in' x hx).1 (ha.in' x hx).2];rfl
 rw[e1,e2,List.length_map,decide_eq_true ha.pos,decide_eq_true ha.most]at hk
 have hsc:=Kinds13_sc h2 hp
 have:=Kinds13_core h hq (by rw[sizeT_pr hp hq];decide) (by simp[NK.x,projX,own13]) (RA:=.imm false ([1,2,3].map (.int .i64))) (RB:=.nil0) (.inr ⟨by simp[NK.x,projX],false,[1,2,3],rfl,hsc⟩) (.inl ⟨rfl,rfl⟩) hk (isL_imm _ _) (fun h=>by simp[NK.x,projX]at h)
 rw[if_neg (by have:=ha.most;omega)]at this
 exact this
theorem Kinds13_root0{σ:Store}{id ep:Nat}{n:LNX}(h:LHas σ id ep [.n n])(hl:n.l=-1)(hr:n.r=-1)(hp:parts13 n.op=0)(ho:own13 n=true){R:AVal}{ok:Bool}{l:List Int}
  (hk:∀ τ,Firm τ→acall code I.qac [n.a,.nil0,.nil0] τ=some (.tup [R,.bool ok],τ)) (hR:IsL R l) :
  acall code I.qu [LV id ep 1,.int .i64 0] σ=some (if 16 < l.length then .tup [.nil0,.bool false] else .tup [R,.bool ok],σ):=by
 have h2:=h.app 1 (.n n)
 have:=Kinds13_core h (p:=0) (n:=.n n) rfl (by rw[sizeT_one (n:=n) rfl];simp[hp,hl,hr]) ho (RA:=.nil0) (RB:=.nil0) (.inl ⟨hl,rfl⟩) (.inl ⟨hr,rfl⟩) (hk _ h2.firm) hR (fun _=>rfl)
 exact this
theorem Kinds13_root1{σ:Store}{id ep:Nat}{n:LNX}{a:List Int}(h:LHas σ id ep [.sc,.pr 0 a,.n n])(ha:Fine a)(hl:n.l=1)(hr:n.r=-1)(hp:parts13 n.op=1)(ho:own13 n=true){R:AVal}{ok:Bool}{l:List Int}
  (hk:∀ τ,Firm τ→acall code I.qac [n.a,.imm false (a.map (.int .i64)),.nil0] τ=some (.tup [R,.bool ok],τ)) (hR:IsL R l) :
  acall code I.qu [LV id ep 3,.int .i64 2] σ=some (if 16 < l.length then .tup [.nil0,.bool false] else .tup [R,.bool ok],σ):=by
 have h2:=h.app 3 (.n n)
 have s2:=sizeT_pr (nodes:=[.sc,.pr 0 a,.n n]) (p:=0) (a:=a) rfl rfl
 have hA:=Kinds13_pr h2 (p:=0) (a:=a) rfl rfl ha
 have:=Kinds13_core h (p:=2) (n:=.n n) rfl (by
  rw[sizeT_one (n:=n) rfl,hp,s2]
  simp[hl,hr]) ho (RA:=.imm false (a.map (.int .i64))) (RB:=.nil0) (.inr ⟨by simp only[NK.x,hl];decide,false,a,rfl,by simp only[NK.x,hl];exact hA⟩) (.inl ⟨hr,rfl⟩) (hk _ h2.firm) hR (fun _=>rfl)
 exact this
theorem Kinds13_root2{σ:Store}{id ep:Nat}{n:LNX}{a b:List Int}(h:LHas σ id ep [.sc,.pr 0 a,.sc,.pr 2 b,.n n])(ha:Fine a)(hb:Fine b)(hl:n.l=1)(hr:n.r=3)(hp:parts13 n.op=2)(ho:own13 n=true){R:AVal}{ok:Bool}{l:List Int}
  (hk:∀ τ,Firm τ→acall code I.qac [n.a,.imm false (a.map (.int .i64)),.imm false (b.map (.int .i64))] τ=some (.tup [R,.bool ok],τ)) (hR:IsL R l) :
  acall code I.qu [LV id ep 5,.int .i64 4] σ=some (if 16 < l.length then .tup [.nil0,.bool false] else .tup [R,.bool ok],σ):=by
 have h2:=h.app 5 (.n n)
 have s2:=sizeT_pr (nodes:=[.sc,.pr 0 a,.sc,.pr 2 b,.n n]) (p:=0) (a:=a) rfl rfl
 have s4:=sizeT_pr (nodes:=[.sc,.pr 0 a,.sc,.pr 2 b,.n n]) (p:=2) (a:=b) rfl rfl
 have hA:=Kinds13_pr h2 (p:=0) (a:=a) rfl rfl ha
 have hB:=Kinds13_pr h2 (p:=2) (a:=b) rfl rfl hb
 have:=Kinds13_core h (p:=4) (n:=.n n) rfl (by
  rw[sizeT_one (n:=n) rfl,hp,s4]
  simp only[show 4 - 2=0+1+1 from rfl,s2]
  simp[hl,hr]) ho (RA:=.imm false (a.map (.int .i64))) (RB:=.imm false (b.map (.int .i64))) (.inr ⟨by simp only[NK.x,hl];decide,false,a,rfl,by simp only[NK.x,hl];exact hA⟩) (.inr ⟨by simp only[NK.x,hr];decide,false,b,rfl,by simp only[NK.x,hr];exact hB⟩) (hk _ h2.firm) hR (fun _=>rfl)
 exact this
end Go.AM
end
section
namespace Go.AM
open P
set_option maxHeartbeats 32000000
set_option maxRecDepth 8000
attribute [local simp] condRun_if when_if
@[simp] theorem take_app{α:Type}(σ t:List α)(k:Nat):(σ++t).take (σ.length+k)=σ++t.take k:=by
 rw[List.take_append,List.take_of_length_le (by omega)];simp
@[simp] theorem freezeNK(b:Nat)(τ:Store):freeze b τ∘NK.a=NK.a:=funext fun k=>nk_firm b τ 17 k
def Sc(c:AVal):Prop:=c=.lst [.int .i64 1,.int .i64 2,.int .i64 3]∨c=.imm false [.int .i64 1,.int .i64 2,.int .i64 3]
abbrev scanA(c:AVal):AVal:=.agg [.int .i64 1,.int .i64 (-1),.int .i64 (-1),.int .i64 0,c,.bool false,.nil0,.nil0,.nil0,.nil0,.nil0,.int .i64 0]
abbrev projA(p:Nat)(c:AVal):AVal:=.agg [.int .i64 5,.int .i64 p,.int .i64 (-1),.int .i64 0,.nil0,.bool false,.nil0,.nil0,.nil0,c,.nil0,.int .i64 0]
abbrev envO(n:LNX)(pv:AVal)(s plen i:Nat)(e6 e7 e8 e9 e10 e11 e15 e16 e17 e18 e19 e20 e21 e22:AVal):List AVal:=
 [n.a,pv,.ptr s 0 0 0,.any,.any,.ptr (s+1) 0 0 0,e6,e7,e8,e9,e10,e11,pv,.int .i64 plen,.int .i64 i,e15,e16,e17,e18,e19,e20,e21,e22]
abbrev stO(σ:Store)(N:LNX)(ep:Nat)(nodes:List NK):Store:=σ++[.arr 12 0 [N.a],.arr 1 0 [LV (σ.length+2) ep nodes.length],.arr 12 ep (nodes.map NK.a)]
abbrev stI(σ:Store)(N:LNX)(ep:Nat)(nodes:List NK)(c:AVal)(items:List ExX):Store:=
 σ++[.arr 12 0 [N.a],.arr 1 0 [LV (σ.length+2) ep nodes.length],.arr 12 ep (nodes.map NK.a),.arr 12 0 [scanA c],.arr 12 0 [projA nodes.length (.sl (σ.length+5) items.length 0 items.length)],.arr 1 items.length (items.map ExX.a)]
theorem oper_inner(σ:Store)(hσ:Firm σ)(n N:LNX)(pv:AVal)(hpv:∀ b τ m,σ.length≤b→fz false true b τ (m+1) pv=pv)(plen i ep:Nat)(nodes:List NK)(b:Bool)(k:List Int)(hk:k.length≤16)(hin:∀ x∈k,0≤x∧x≤3)(c:AVal)(hc:Sc c) :
  ∃ c',Sc c'∧rounds code (σ.length+6) [10,11,20,21] l_qaj_0 ⟨envO n pv σ.length plen i (.int .i64 i) (.imm b (k.map (.int .i64))) (.ptr (σ.length+3) 0 0 0) (.ptr (σ.length+4) 0 0 0) .any .any (.bool true) (.bool false) (.imm b (k.map (.int .i64))) (.int .i64 k.length) (.int .i64 0) .any .any .any,stI σ N ep nodes c []⟩ =
   some (.ext 2,⟨envO n pv σ.length plen i (.int .i64 i) (.imm b (k.map (.int .i64))) (.ptr (σ.length+3) 0 0 0) (.ptr (σ.length+4) 0 0 0) .any .any (.bool true) (.bool false) (.imm b (k.map (.int .i64))) (.int .i64 k.length) (.int .i64 k.length) (.bool false) .any .any,stI σ N ep nodes c' (k.map itemX)⟩):=by
 have hm:k.length≤most:=by unfold most;omega
 have hσ':∀ τ,σ.map (freezeObj (σ.length+6) τ)=σ:=fun τ=>hσ τ _ (by omega)
 have hnz:∀ (N:LNX) base σ m,fz false true base σ (m+3) N.a=N.a:=fun N base σ m=>Ft.ft false true base σ m N rfl
 have hpv':=fun τ m=>hpv (σ.length+6) τ m (by omega)
 have hnn:ncells N.a=12:=rfl
 have key:=rounds_listR (ρ:=Empty) (base:=σ.length+6) (clr:=[10,11,20,21]) (b:=l_qaj_0) k
  (fun j (items:List ExX) t=>items.length=j∧∃ c,Sc c∧t=⟨envO n pv σ.length plen i (.int .i64 i) (.imm b (k.map (.int .i64))) (.ptr (σ.length+3) 0 0 0) (.ptr (σ.length+4) 0 0 0) .any .any (.bool true) (.bool false) (.imm b (k.map (.int .i64))) (.int .i64 k.length) (.int .i64 j) .any .any .any,stI σ N ep nodes c items⟩)
  (fun _ x items=>.inl (items++[itemX x]))
  (fun items o=>∃ c,Sc c∧o=(.ext 2,⟨envO n pv σ.length plen i (.int .i64 i) (.imm b (k.map (.int .i64))) (.ptr (σ.length+3) 0 0 0) (.ptr (σ.length+4) 0 0 0) .any .any (.bool true) (.bool false) (.imm b (k.map (.int .i64))) (.int .i64 k.length) (.int .i64 k.length) (.bool false) .any .any,stI σ N ep nodes c items⟩))
  (fun r _=>r.elim)
  (fun j x items t hj hy ht=>by
   obtain ⟨hl,c,hc,rfl⟩:=ht
   have hlt:((j:Int) < (k.length:Int)):=by omega
   have h5:items.length+1≤most:=by unfold most;omega
   have hM:=fun bq=>Made10_v (if 0 < x then ⟨2,0,0,x - 1,zeroV⟩ else ⟨1,0,0,0,zeroV⟩) bq
   have hM':pcall I.ql [EN.a (if 0 < x then ⟨2,0,0,x - 1,zeroV⟩ else ⟨1,0,0,0,zeroV⟩),.imm false []]=some (itemX x).a:=by
    rw[hM]
    unfold itemX ExX.a
    by_cases h:0 < x<;>simp[h]
   have hI:(itemX x).a=.agg [.imm false [EN.a (if 0 < x then ⟨2,-1,-1,x - 1,zeroV⟩ else ⟨1,-1,-1,0,zeroV⟩)]]:=by
    unfold itemX ExX.a
    by_cases h:0 < x<;>simp[h]
   simp only
   refine ⟨⟨envO n pv σ.length plen i (.int .i64 i) (.imm b (k.map (.int .i64))) (.ptr (σ.length+3) 0 0 0) (.ptr (σ.length+4) 0 0 0) .any .any (.bool true) (.bool false) (.imm b (k.map (.int .i64))) (.int .i64 k.length) (.int .i64 (j+1:Nat)) .any .any .any,stI σ N ep nodes (.imm false [.int .i64 1,.int .i64 2,.int .i64 3]) (items++[itemX x])⟩,?_,by simp[hl],_,.inr rfl,rfl⟩
   by_cases hx:0 < x
   ·have hw:IntKind.i64.wrap (x - 1)=x - 1:=by
     have:=hin x (List.mem_of_getElem? hy)
     exact wrap64_id (by omega)
    simp only[if_pos hx]at hM' hI
    simp only[EN.a,zeroV]at hM' hI
    rcases hc with rfl|rfl<;>simp[envO,stI,l_qaj_0,hlt,hy,hx,hw,hM',hI,append,h5,wrap_lt hj hm,roundEnd,freezeObj,freeze,fuel,hσ',hnz,hnn,hpv']
   ·simp only[if_neg hx]at hM' hI
    simp only[EN.a,zeroV]at hM' hI
    rcases hc with rfl|rfl<;>simp[envO,stI,l_qaj_0,hlt,hy,hx,hM',hI,append,h5,wrap_lt hj hm,roundEnd,freezeObj,freeze,fuel,hσ',hnz,hnn,hpv'])
  (fun items t ht=>by
   obtain ⟨hl,c,hc,rfl⟩:=ht
   exact ⟨_,by simp[l_qaj_0],c,hc,rfl⟩) [] _ ⟨rfl,c,hc,rfl⟩
 rw[foldL_snoc]at key
 obtain ⟨o,h1,c',h2,rfl⟩:=key
 rw[List.nil_append]at h1
 exact ⟨c',h2,h1⟩
end Go.AM
end
section
namespace Go.AM
open P
set_option maxHeartbeats 32000000
set_option maxRecDepth 8000
attribute [local simp] condRun_if when_if
@[simp] theorem fz_item1(b:Nat)(τ:Store)(m:Nat)(x:Int):fz false false b τ (m+3) (itemX x).a=(itemX x).a:=by simp[itemX,ExX.a]
@[simp] theorem fz_items(b:Nat)(τ:Store)(m:Nat):fz false false b τ (m+3)∘ExX.a∘itemX=ExX.a∘itemX:=funext fun x=>by simp[itemX,ExX.a]
@[simp] theorem cellsOf_lstR(xs:List AVal):cellsOf (.lst xs)=[.lst xs]:=rfl
def putP(i p:Nat)(N:LNX):LNX:=if i=0 then { N with l:=p } else { N with r:=p }
abbrev prN(p:Nat)(k:List Int):List NK:=[.sc,.pr p k]
theorem oper_round(σ:Store)(hσ:Firm σ)(n N:LNX)(pid pep plen i ep:Nat)(ks:List AVal)(hpid:pid < σ.length)(hget:σ[pid]?=some (.arr 1 pep ks))(hi:i < plen)(hpl:plen≤2)(nodes:List NK)(hN:nodes.length≤16)(b:Bool)(k:List Int)(hki:ks[i]?=some (.imm b (k.map (.int .i64))))(hk:k.length≤16)(hs:sum4 k=false)(hin:∀ x∈k,0≤x∧x≤3) :
  thenLoop (σ.length+3) [3,4,6,7,8,9,10,11,15,16,17,18,19,20,21,22] l_qaj_1 (run code l_qaj_1 ⟨envO n (.sl pid pep 0 plen) σ.length plen i .any .any .any .any .any .any .any .any .any .any .any .any .any .any,stO σ N ep nodes⟩) =
   rounds code (σ.length+3) [3,4,6,7,8,9,10,11,15,16,17,18,19,20,21,22] l_qaj_1 ⟨envO n (.sl pid pep 0 plen) σ.length plen (i+1) .any .any .any .any .any .any .any .any .any .any .any .any .any .any,stO σ (putP i (nodes.length+1) N) (ep+1) (nodes++prN nodes.length k)⟩:=by
 have hg:∀ τ,(σ++τ)[pid]?=some (.arr 1 pep ks):=fun τ=>by rw[List.getElem?_append_left hpid,hget]
 have hlt:((i:Int) < (plen:Int)):=by omega
 have hpv:∀ b τ m,σ.length≤b→fz false true b τ (m+1) (.sl pid pep 0 plen)=.sl pid pep 0 plen:=fun b τ m hb=>by
  have:pid < b:=by omega
  simp[this]
 have hsum:=fun b=>sums18_v b k (by unfold most;omega)
 rw[hs]at hsum
 have hσ':∀ τ,σ.map (freezeObj (σ.length+3) τ)=σ:=fun τ=>hσ τ _ (by omega)
 have hnz:∀ (N:LNX) base σ m,fz false true base σ (m+3) N.a=N.a:=fun N base σ m=>Ft.ft false true base σ m N rfl
 have hnn:ncells N.a=12:=rfl
 have hil:(ks[i]?).isSome:=by rw[hki];rfl
 have hpvz:=fun τ m=>hpv (σ.length+3) τ m (by omega)
 have h5:nodes.length+2≤most:=by unfold most;omega
 have hwl:IntKind.i64.wrap ((nodes.length:Int)+2 - 1)=(nodes.length:Int)+1:=by rw[wrap64_id (by omega)];omega
 obtain ⟨c',hc',hin'⟩:=oper_inner σ hσ n N (.sl pid pep 0 plen) hpv plen i ep nodes b k hk hin (.lst [.int .i64 1,.int .i64 2,.int .i64 3]) (.inl rfl)
 simp[envO,stI,scanA,projA,LNX.a]at hin'
 have hpr:∀ m,[AVal.int .i64 5,.int .i64 nodes.length]=m→True:=fun _ _=>trivial
 have hw1:IntKind.i64.wrap 1=1:=by decide
 have hwi:IntKind.i64.wrap ((i:Int)+1)=(i:Int)+1:=wrap64_id (by omega)
 unfold putP
 by_cases h0:i=0
 ·subst h0
  simp only[show ((0:Nat):Int)=0 from rfl]at hin'
  rcases hc' with rfl|rfl<;>simp[envO,stO,l_qaj_1,hlt,hi,hg,hki,hsum,hnn,append,h5,hin',hwl,roundEnd,freezeObj,freeze,fuel,hσ',hnz,hpvz,hw1,hwi,NK.a,LNX.a,N1,N5,LV]
 ·have h0':((i:Int) == 0)=false:=by rw[beq_eq_false_iff_ne];omega
  rcases hc' with rfl|rfl<;>simp[envO,stO,l_qaj_1,hlt,hi,hg,hki,hsum,hnn,append,h5,hin',hwl,roundEnd,freezeObj,freeze,fuel,hσ',hnz,hpvz,hw1,hwi,NK.a,LNX.a,N1,N5,LV,h0,h0']
end Go.AM
end
