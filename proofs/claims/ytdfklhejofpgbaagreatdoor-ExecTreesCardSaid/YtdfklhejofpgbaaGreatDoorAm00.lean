/- Part of the proof. -/
import Init
import Derived.Shelf.SlLaysF0
import Derived.Shelf.SlSortCmp.Whole1
import Derived.Shelf.SlSortCmp.NoneTotal
import Derived.Shelf.Slices.In.SortNone
import Derived.Shelf.SlGeneric
import Derived.Ground.SlsfProg
import Derived.Ground.NamesProg
import Derived.Test.YtdfklhejofpgbaaGreatDoorProg
import GoSem.Core.Sem
import GoSem.Op.String
import Derived.CallsIn
import Derived.Laws.Sem
import Derived.Laws.Cells
import Derived.Laws.Rows
import Derived.Laws.Tables
set_option linter.unusedVariables false
set_option linter.unusedSimpArgs false
namespace Go.AM
abbrev bO:=@List.length_take
abbrev cf:=@List.length_map
abbrev aU:=@List.mem_map
abbrev al:=@List.getElem?_eq_some_iff
abbrev b9:=@List.nil_append
abbrev ig:=@List.any_nil
abbrev bC:=@Bool.false_eq_true
abbrev bh:=@List.map_nil
abbrev aq:=@Bool.and_eq_true
abbrev aL:=@decide_eq_true_eq
abbrev aw:=@List.mem_of_getElem?
abbrev av:=@List.take_of_length_le
abbrev fD:=@decide_eq_true
abbrev dY:=@Bool.true_eq_false
abbrev cz:=@if_false
abbrev bT:=@List.mem_append
abbrev ce:=@List.mem_singleton
abbrev bl:=@List.eq_nil_of_length_eq_zero
abbrev gm:=@beq_eq_false_iff_ne
abbrev bu:=@List.length_nil
abbrev cN:=@Bool.not_eq_true'
abbrev bR:=@List.any_eq_false
abbrev cK:=@Bool.or_eq_true
abbrev aG:=@List.all_eq_true
abbrev au:=@List.getD_eq_getElem?_getD
abbrev am:=@List.getElem?_eq_getElem
abbrev fT:=@Bool.eq_false_iff
abbrev aF:=@List.getElem_mem
abbrev cJ:=@Option.getD_some
abbrev dC:=@List.getElem?_eq_none
abbrev dd:=@Option.map_some
abbrev aJ:=@Option.some.injEq
abbrev dz:=@List.mem_cons
abbrev aP:=@beq_iff_eq
abbrev bB:=@List.getElem?_append_left
abbrev bQ:=@List.getElem?_append_right
abbrev mr:=@Nat.sub_self
abbrev dP:=@List.drop_eq_getElem_cons
abbrev ke:=@not_true
abbrev dD:=@List.tail_drop
abbrev cE:=@List.map_map
abbrev bx:=@List.map_congr_left
abbrev bX:=@Nat.not_lt_zero
abbrev d6:=@List.map_take
abbrev aM:=@Nat.le_refl
abbrev cW:=@if_true
abbrev bG:=@List.map_cons
abbrev cM:=@List.cons_append
abbrev bj:=@List.length_cons
abbrev bM:=@Option.bind_some
abbrev ct:=@Nat.add_assoc
abbrev d9:=@Nat.add_comm
abbrev cw:=@List.take_succ_eq_append_getElem
abbrev cn:=@List.take_length
abbrev dx:=@Nat.min_eq_left
abbrev bS:=@Nat.zero_add
abbrev dE:=@List.length_drop
abbrev s7:=@List.map_drop
abbrev cQ:=@List.mem_of_mem_drop
abbrev bv:=@List.mem_of_mem_take
abbrev bd:=@Nat.lt_of_lt_of_le
abbrev kC:=@Nat.lt_trans
abbrev mA:=@UInt8.toNat_inj
abbrev mZ:=@List.Perm.refl
abbrev ek:=@List.pairwise_cons
abbrev cr:=@List.mem_cons_self
abbrev bP:=@Nat.zero_le
abbrev iK:=@List.getElem?_cons_zero
abbrev eN:=@Bool.not_eq_true
abbrev gQ:=@List.contains_iff_mem
abbrev gh:=@List.mem_range
abbrev aO:=@List.mem_cons_of_mem
abbrev nU:=@Bool.not_true
abbrev jW:=@Bool.false_or
abbrev dX:=@Nat.testBit_two_pow_sub_one
abbrev dt:=@List.mem_iff_getElem?
abbrev ia:=@List.pairwise_iff_getElem
abbrev eY:=@Nat.lt_trichotomy
abbrev d4:=@List.any_eq_true
abbrev hY:=@Option.isNone_iff_eq_none
abbrev la:=@List.eq_of_mem_replicate
abbrev fW:=@List.any_cons
abbrev fY:=@List.flatMap_cons
abbrev bV:=@List.length_append
abbrev aI:=@Nat.le_trans
abbrev jJ:=@List.mem_flatMap
abbrev dy:=@List.map_append
abbrev eG:=@List.foldl_cons
abbrev jv:=@Bool.and_assoc
abbrev nG:=@Nat.add_le_add
abbrev ew:=@Bool.true_and
abbrev dN:=@Prod.mk.injEq
abbrev dp:=@List.getElem?_map
abbrev cO:=@List.getElem_cons_zero
abbrev dm:=@List.mem_iff_getElem
abbrev bJ:=@Array.getD_eq_getD_getElem?
abbrev kX:=@Array.size_setIfInBounds
abbrev dv:=@Array.getElem?_setIfInBounds
abbrev bU:=@List.getElem_append_left
abbrev cH:=@List.getElem_append_right
abbrev dU:=@List.getElem_drop
abbrev du:=@Nat.add_mul
abbrev cd:=@Nat.mul_le_mul_right
abbrev lU:=@List.range'_succ
abbrev gz:=@List.zip_cons_cons
abbrev dn:=@List.findIdx?_eq_some_iff_getElem
abbrev df:=@List.getElem?_take
abbrev gv:=@Bool.not_eq_false'
abbrev eg:=@Option.isSome_iff_exists
abbrev g9:=@List.ne_nil_of_length_pos
abbrev VM:=@List.map_id
abbrev kr:=@List.mem_map_of_mem
abbrev jz:=@List.eq_replicate_iff
abbrev bH:=@Array.getElem?_eq_some_iff
abbrev dr:=@Nat.lt_irrefl
abbrev dJ:=@Nat.le_succ
abbrev gW:=@List.drop_zero
abbrev eF:=@Bool.eq_iff_iff
abbrev gO:=@bne_iff_ne
abbrev oc:=@Bool.or_false
abbrev iz:=@Bool.eq_false_or_eq_true
abbrev fI:=@List.takeWhile_prefix
abbrev gJ:=@List.set_append_right
abbrev eL:=@List.all_cons
abbrev mc:=@decide_eq_decide
abbrev eH:=@decide_eq_false
abbrev eO:=@List.map_replicate
abbrev ed:=@List.length_replicate
abbrev lQ:=@List.length_eq_one_iff
abbrev eQ:=@Bool.or_eq_false_iff
abbrev d5:=@List.getElem?_zip_eq_some
abbrev ic:=@List.getLastD_eq_getLast?
abbrev d7:=@List.getLast?_eq_getElem?
abbrev mV:=@List.range_eq_range'
abbrev mJ:=@Nat.mul_eq_zero
abbrev gq:=@Nat.mul_comm
abbrev ky:=@Nat.mul_add_mod
abbrev jL:=@Nat.mod_eq_of_lt
abbrev iZ:=@List.getElem_replicate
abbrev jg:=@List.getElem_cons_succ
abbrev iQ:=@List.getElem?_cons_succ
abbrev aY:=@Option.map_eq_some_iff
abbrev aN:=@Option.bind_eq_some_iff
abbrev eE:=@List.getElem?_set_self
abbrev f7:=@List.ext_getElem?
abbrev fH:=@Array.getElem?_toList
abbrev gM:=@Array.getElem?_modify
abbrev dc:=@List.getElem?_set
abbrev db:=@List.getElem_map
abbrev gk:=@Nat.mul_le_mul
abbrev cR:=@List.append_nil
abbrev jr:=@List.drop_drop
abbrev cU:=@List.findIdx_lt_length_of_exists
abbrev dZ:=@List.findIdx_getElem
abbrev eD:=@List.not_of_lt_findIdx
abbrev kH:=@Nat.zero_mul
abbrev cS:=@Array.length_toList
abbrev kZ:=@List.take_take
abbrev eK:=@Nat.add_zero
abbrev gT:=@Bool.not_eq_false
abbrev aR:=@Int.toNat_natCast
abbrev ej:=@Array.ext_getElem?
abbrev dG:=@List.getElem?_set_ne
abbrev gK:=@List.take_append_drop
abbrev jo:=@List.append_assoc
abbrev ir:=@List.replicate_succ
abbrev eW:=@decide_eq_false_iff_not
abbrev cB:=@Option.some.inj
abbrev fZ:=@Function.comp_def
abbrev my:=@List.any_map
abbrev jV:=@List.mem_of_getLast?
abbrev fJ:=@List.getElem_set_self
abbrev fE:=@List.getElem?_drop
abbrev iR:=@List.take_left'
abbrev d8:=@List.exists_mem_of_ne_nil
abbrev kh:=@List.flatMap_append
abbrev fX:=@List.take_add_one
abbrev iU:=@List.flatMap_eq_nil_iff
abbrev gl:=@List.takeWhile_cons
abbrev mC:=@Nat.le_max_left
abbrev ma:=@Nat.le_max_right
abbrev li:=@not_false_eq_true
abbrev ji:=@Array.getElem?_extract
abbrev iI:=@Nat.mul_one
abbrev de:=@Array.getElem?_eq_getElem
abbrev gY:=@Array.getElem_toList
abbrev fM:=@List.mem_or_eq_of_mem_set
abbrev gB:=@List.length_set
abbrev gg:=@List.getElem_set_ne
abbrev dB:=@Array.getElem?_append_left
abbrev gE:=@Array.getElem?_append_right
abbrev jD:=@Nat.div_lt_iff_lt_mul
abbrev fF:=@Nat.pos_of_ne_zero
abbrev mD:=@Nat.div_add_mod
abbrev dW:=@List.getElem_take
abbrev ll:=@of_decide_eq_true
abbrev iS:=@List.not_any_eq_all_not
abbrev fu:=@beq_self_eq_true
abbrev gf:=@Array.eq_empty_of_size_eq_zero
abbrev dH:=@Array.getElem?_eq_none
abbrev lb:=@List.Perm.eq_of_pairwise
abbrev jB:=@Classical.choose_spec
abbrev iC:=@Array.all_eq_true_iff_forall_mem
abbrev jd:=@List.drop_of_length_le
abbrev dT:=@List.dropLast_concat_getLast
abbrev kU:=@Nat.add_sub_cancel
abbrev mB:=@List.cons.injEq
end Go.AM
namespace Go.Proofs
open Go.Shelf
def Tryz.sortF_ren:Go.Shelf.Ren:=⟨fun|6=>92|15=>170|14=>169|28=>236|29=>237|20=>228|21=>229|22=>230|23=>231|24=>232|25=>233|26=>234|27=>235|46=>271|47=>272|48=>273|49=>274|50=>275|57=>293|n=>n,fun|22=>31|24=>61|25=>99|3=>3|39=>207|0=>0|53=>242|55=>47|4=>4|46=>236|45=>235|50=>192|5=>5|9=>9|66=>262|70=>266|76=>281|77=>282|n=>n,fun|n=>n⟩
theorem Tryz.sortF:Go.Proofs.SlLaysF.n6 Tryz.prog Tryz.sortF_ren:={
 mixed:=by kernel_rfl
 f6:=⟨Tryz.f92.name,by decide,Tryz.func92.trans (congrArg some (by kernel_rfl))⟩
 f14:=⟨Tryz.f169.name,by decide,Tryz.func169.trans (congrArg some (by kernel_rfl))⟩
 f15:=Tryz.func170.trans (congrArg some (by kernel_rfl))
 f20:=⟨Tryz.f228.name,by decide,Tryz.func228.trans (congrArg some (by kernel_rfl))⟩
 f21:=⟨Tryz.f229.name,by decide,Tryz.func229.trans (congrArg some (by kernel_rfl))⟩
 f22:=⟨Tryz.f230.name,by decide,Tryz.func230.trans (congrArg some (by kernel_rfl))⟩
 f23:=⟨Tryz.f231.name,by decide,Tryz.func231.trans (congrArg some (by kernel_rfl))⟩
 f24:=⟨Tryz.f232.name,by decide,Tryz.func232.trans (congrArg some (by kernel_rfl))⟩
 f25:=⟨Tryz.f233.name,by decide,Tryz.func233.trans (congrArg some (by kernel_rfl))⟩
 f26:=⟨Tryz.f234.name,by decide,Tryz.func234.trans (congrArg some (by kernel_rfl))⟩
 f27:=⟨Tryz.f235.name,by decide,Tryz.func235.trans (congrArg some (by kernel_rfl))⟩
 f28:=Tryz.func236.trans (congrArg some (by kernel_rfl))
 f29:=Tryz.func237.trans (congrArg some (by kernel_rfl))
 f46:=⟨Tryz.f271.name,by decide,Tryz.func271.trans (congrArg some (by kernel_rfl))⟩
 f47:=Tryz.func272.trans (congrArg some (by kernel_rfl))
 f48:=Tryz.func273.trans (congrArg some (by kernel_rfl))
 f49:=⟨Tryz.f274.name,by decide,Tryz.func274.trans (congrArg some (by kernel_rfl))⟩
 f50:=⟨Tryz.f275.name,by decide,Tryz.func275.trans (congrArg some (by kernel_rfl))⟩
 f57:=⟨Tryz.f293.name,by decide,Tryz.func293.trans (congrArg some (by kernel_rfl))⟩
 t0:=Tryz.underlying0
 a0:=Tryz.isAgg0
 z0:=Tryz.sizeOf0
 v0:=Tryz.zeroValue0
 t3:=Tryz.underlying3
 a3:=Tryz.isAgg3
 z3:=Tryz.sizeOf3
 v3:=Tryz.zeroValue3
 t4:=Tryz.underlying4
 a4:=Tryz.isAgg4
 z4:=Tryz.sizeOf4
 v4:=Tryz.zeroValue4
 t5:=Tryz.underlying5
 a5:=Tryz.isAgg5
 z5:=Tryz.sizeOf5
 v5:=Tryz.zeroValue5
 t9:=Tryz.underlying9
 a9:=Tryz.isAgg9
 z9:=Tryz.sizeOf9
 v9:=Tryz.zeroValue9
 t22:=Tryz.underlying31
 a22:=Tryz.isAgg31
 z22:=Tryz.sizeOf31
 v22:=Tryz.zeroValue31
 a24:=Tryz.isAgg61
 z24:=Tryz.sizeOf61
 t25:=Tryz.underlying99
 a25:=Tryz.isAgg99
 z25:=Tryz.sizeOf99
 v25:=Tryz.zeroValue99
 t39:=Tryz.underlying207
 a39:=Tryz.isAgg207
 z39:=Tryz.sizeOf207
 v39:=Tryz.zeroValue207
 t45:=Tryz.underlying235
 a45:=Tryz.isAgg235
 z45:=Tryz.sizeOf235
 v45:=Tryz.zeroValue235
 t46:=Tryz.underlying236
 a46:=Tryz.isAgg236
 z46:=Tryz.sizeOf236
 v46:=Tryz.zeroValue236
 t50:=Tryz.underlying192
 a50:=Tryz.isAgg192
 z50:=Tryz.sizeOf192
 v50:=Tryz.zeroValue192
 t53:=Tryz.underlying242
 a53:=Tryz.isAgg242
 z53:=Tryz.sizeOf242
 v53:=Tryz.zeroValue242
 t55:=Tryz.underlying47
 a55:=Tryz.isAgg47
 z55:=Tryz.sizeOf47
 v55:=Tryz.zeroValue47
 t66:=Tryz.underlying262
 a66:=Tryz.isAgg262
 z66:=Tryz.sizeOf262
 v66:=Tryz.zeroValue262
 t70:=Tryz.underlying266
 a70:=Tryz.isAgg266
 z70:=Tryz.sizeOf266
 v70:=Tryz.zeroValue266
 t76:=Tryz.underlying281
 a76:=Tryz.isAgg281
 z76:=Tryz.sizeOf281
 v76:=Tryz.zeroValue281
 t77:=Tryz.underlying282
 a77:=Tryz.isAgg282
 z77:=Tryz.sizeOf282
 v77:=Tryz.zeroValue282 }
theorem Tryz.sortF0:Go.Proofs.SlLaysF0.n6 Tryz.prog Tryz.sortF_ren:={
 mixed:=by kernel_rfl
 f6:=⟨Tryz.f92.name,by decide,Tryz.func92.trans (congrArg some (by kernel_rfl))⟩
 f14:=⟨Tryz.f169.name,by decide,Tryz.func169.trans (congrArg some (by kernel_rfl))⟩
 f15:=Tryz.func170.trans (congrArg some (by kernel_rfl))
 f20:=⟨Tryz.f228.name,by decide,Tryz.func228.trans (congrArg some (by kernel_rfl))⟩
 f21:=⟨Tryz.f229.name,by decide,Tryz.func229.trans (congrArg some (by kernel_rfl))⟩
 f22:=⟨Tryz.f230.name,by decide,Tryz.func230.trans (congrArg some (by kernel_rfl))⟩
 f23:=⟨Tryz.f231.name,by decide,Tryz.func231.trans (congrArg some (by kernel_rfl))⟩
 f24:=⟨Tryz.f232.name,by decide,Tryz.func232.trans (congrArg some (by kernel_rfl))⟩
 f25:=⟨Tryz.f233.name,by decide,Tryz.func233.trans (congrArg some (by kernel_rfl))⟩
 f26:=⟨Tryz.f234.name,by decide,Tryz.func234.trans (congrArg some (by kernel_rfl))⟩
 f27:=⟨Tryz.f235.name,by decide,Tryz.func235.trans (congrArg some (by kernel_rfl))⟩
 f28:=Tryz.func236.trans (congrArg some (by kernel_rfl))
 f29:=Tryz.func237.trans (congrArg some (by kernel_rfl))
 f46:=⟨Tryz.f271.name,by decide,Tryz.func271.trans (congrArg some (by kernel_rfl))⟩
 f47:=Tryz.func272.trans (congrArg some (by kernel_rfl))
 f48:=Tryz.func273.trans (congrArg some (by kernel_rfl))
 f49:=⟨Tryz.f274.name,by decide,Tryz.func274.trans (congrArg some (by kernel_rfl))⟩
 f50:=⟨Tryz.f275.name,by decide,Tryz.func275.trans (congrArg some (by kernel_rfl))⟩
 f57:=⟨Tryz.f293.name,by decide,Tryz.func293.trans (congrArg some (by kernel_rfl))⟩
 t0:=Tryz.underlying0
 a0:=Tryz.isAgg0
 z0:=Tryz.sizeOf0
 v0:=Tryz.zeroValue0
 t3:=Tryz.underlying3
 a3:=Tryz.isAgg3
 z3:=Tryz.sizeOf3
 v3:=Tryz.zeroValue3
 t4:=Tryz.underlying4
 a4:=Tryz.isAgg4
 z4:=Tryz.sizeOf4
 v4:=Tryz.zeroValue4
 t5:=Tryz.underlying5
 a5:=Tryz.isAgg5
 z5:=Tryz.sizeOf5
 v5:=Tryz.zeroValue5
 t9:=Tryz.underlying9
 a9:=Tryz.isAgg9
 z9:=Tryz.sizeOf9
 v9:=Tryz.zeroValue9
 t22:=Tryz.underlying31
 a22:=Tryz.isAgg31
 z22:=Tryz.sizeOf31
 v22:=Tryz.zeroValue31
 t25:=Tryz.underlying99
 a25:=Tryz.isAgg99
 z25:=Tryz.sizeOf99
 v25:=Tryz.zeroValue99
 t39:=Tryz.underlying207
 a39:=Tryz.isAgg207
 z39:=Tryz.sizeOf207
 v39:=Tryz.zeroValue207
 t45:=Tryz.underlying235
 a45:=Tryz.isAgg235
 z45:=Tryz.sizeOf235
 v45:=Tryz.zeroValue235
 t46:=Tryz.underlying236
 a46:=Tryz.isAgg236
 z46:=Tryz.sizeOf236
 v46:=Tryz.zeroValue236
 t50:=Tryz.underlying192
 a50:=Tryz.isAgg192
 z50:=Tryz.sizeOf192
 v50:=Tryz.zeroValue192
 t53:=Tryz.underlying242
 a53:=Tryz.isAgg242
 z53:=Tryz.sizeOf242
 v53:=Tryz.zeroValue242
 t55:=Tryz.underlying47
 a55:=Tryz.isAgg47
 z55:=Tryz.sizeOf47
 v55:=Tryz.zeroValue47
 t66:=Tryz.underlying262
 a66:=Tryz.isAgg262
 z66:=Tryz.sizeOf262
 v66:=Tryz.zeroValue262
 t70:=Tryz.underlying266
 a70:=Tryz.isAgg266
 z70:=Tryz.sizeOf266
 v70:=Tryz.zeroValue266
 t76:=Tryz.underlying281
 a76:=Tryz.isAgg281
 z76:=Tryz.sizeOf281
 v76:=Tryz.zeroValue281
 t77:=Tryz.underlying282
 a77:=Tryz.isAgg282
 z77:=Tryz.sizeOf282
 v77:=Tryz.zeroValue282 }
def Tryz.lays189_ren:Go.Shelf.Ren:=⟨fun|189=>178|125=>170|257=>243|128=>236|129=>237|294=>280|295=>281|296=>282|297=>283|298=>284|299=>285|216=>286|300=>287|301=>288|328=>294|329=>272|330=>273|331=>295|332=>296|215=>276|343=>298|n=>n,fun|28=>36|3=>3|46=>207|0=>0|51=>242|53=>47|4=>4|183=>236|182=>235|131=>192|5=>5|9=>9|218=>262|222=>266|228=>281|229=>282|n=>n,fun|n=>n⟩
theorem Tryz.lays189:Go.Proofs.Lays.n189 Tryz.prog Tryz.lays189_ren:={
 mixed:=by kernel_rfl
 f125:=Tryz.func170.trans (congrArg some (by kernel_rfl))
 f128:=Tryz.func236.trans (congrArg some (by kernel_rfl))
 f129:=Tryz.func237.trans (congrArg some (by kernel_rfl))
 f189:=Tryz.func178.trans (congrArg some (by kernel_rfl))
 f215:=Tryz.func276.trans (congrArg some (by kernel_rfl))
 f216:=Tryz.func286.trans (congrArg some (by kernel_rfl))
 f257:=Tryz.func243.trans (congrArg some (by kernel_rfl))
 f294:=Tryz.func280.trans (congrArg some (by kernel_rfl))
 f295:=Tryz.func281.trans (congrArg some (by kernel_rfl))
 f296:=Tryz.func282.trans (congrArg some (by kernel_rfl))
 f297:=Tryz.func283.trans (congrArg some (by kernel_rfl))
 f298:=Tryz.func284.trans (congrArg some (by kernel_rfl))
 f299:=Tryz.func285.trans (congrArg some (by kernel_rfl))
 f300:=Tryz.func287.trans (congrArg some (by kernel_rfl))
 f301:=Tryz.func288.trans (congrArg some (by kernel_rfl))
 f328:=Tryz.func294.trans (congrArg some (by kernel_rfl))
 f329:=Tryz.func272.trans (congrArg some (by kernel_rfl))
 f330:=Tryz.func273.trans (congrArg some (by kernel_rfl))
 f331:=Tryz.func295.trans (congrArg some (by kernel_rfl))
 f332:=Tryz.func296.trans (congrArg some (by kernel_rfl))
 f343:=Tryz.func298.trans (congrArg some (by kernel_rfl))
 t0:=Tryz.underlying0
 a0:=Tryz.isAgg0
 z0:=Tryz.sizeOf0
 v0:=Tryz.zeroValue0
 t3:=Tryz.underlying3
 a3:=Tryz.isAgg3
 z3:=Tryz.sizeOf3
 v3:=Tryz.zeroValue3
 t4:=Tryz.underlying4
 a4:=Tryz.isAgg4
 z4:=Tryz.sizeOf4
 v4:=Tryz.zeroValue4
 t5:=Tryz.underlying5
 a5:=Tryz.isAgg5
 z5:=Tryz.sizeOf5
 v5:=Tryz.zeroValue5
 t9:=Tryz.underlying9
 a9:=Tryz.isAgg9
 z9:=Tryz.sizeOf9
 v9:=Tryz.zeroValue9
 t28:=Tryz.underlying36
 a28:=Tryz.isAgg36
 z28:=Tryz.sizeOf36
 v28:=Tryz.zeroValue36
 t46:=Tryz.underlying207
 a46:=Tryz.isAgg207
 z46:=Tryz.sizeOf207
 v46:=Tryz.zeroValue207
 t51:=Tryz.underlying242
 a51:=Tryz.isAgg242
 z51:=Tryz.sizeOf242
 v51:=Tryz.zeroValue242
 t53:=Tryz.underlying47
 a53:=Tryz.isAgg47
 z53:=Tryz.sizeOf47
 v53:=Tryz.zeroValue47
 t131:=Tryz.underlying192
 a131:=Tryz.isAgg192
 z131:=Tryz.sizeOf192
 v131:=Tryz.zeroValue192
 t182:=Tryz.underlying235
 a182:=Tryz.isAgg235
 z182:=Tryz.sizeOf235
 v182:=Tryz.zeroValue235
 t183:=Tryz.underlying236
 a183:=Tryz.isAgg236
 z183:=Tryz.sizeOf236
 v183:=Tryz.zeroValue236
 t218:=Tryz.underlying262
 a218:=Tryz.isAgg262
 z218:=Tryz.sizeOf262
 v218:=Tryz.zeroValue262
 t222:=Tryz.underlying266
 a222:=Tryz.isAgg266
 z222:=Tryz.sizeOf266
 v222:=Tryz.zeroValue266
 t228:=Tryz.underlying281
 a228:=Tryz.isAgg281
 z228:=Tryz.sizeOf281
 v228:=Tryz.zeroValue281
 t229:=Tryz.underlying282
 a229:=Tryz.isAgg282
 z229:=Tryz.sizeOf282
 v229:=Tryz.zeroValue282 }
end Go.Proofs
namespace Go.AM
inductive ap where
 |int (k:IntKind) (n:Int)
 |bool (b:Bool)
 |str (s:List UInt8)
 |nilp
 |nilf
 |nilm
 |agg (cs:List ap)
 |tup (vs:List ap)
 |aa (b:Bool) (xs:List ap)
 |lst (xs:List ap)
 |aj
 |sl (id ep off len:Nat)
 |ptr (id ep i off:Nat)
 |asl (id ep i off n:Nat)
 |cptr (b:Bool) (x:ap) (off:Nat)
 |fn (f:Nat) (first cap:List ap)
 |imap (b:Bool) (es:List (ap×ap))
 |mp (id:Nat)
 |yld (l site:Nat) (env:List ap)
 |frs (k:Nat) (xs:List ap)
 |emp (b:Bool)
 |any
 deriving Inhabited
inductive Ex where
 |nrm
 |ext (id:Nat)
 |ret
 deriving DecidableEq,Inhabited
inductive Obj where
 |arr (k ep:Nat) (es:List ap)
 |map (es:List (ap×ap))
 |pend (busy:Bool) (j:Option Ex)
 |dead
 deriving Inhabited
abbrev ay:=List Obj
def js:ap→Bool
 |.int ..=>true
 |.str _=>true
 |_=>false
def isAgg:ap→Bool
 |.agg _=>true
 |_=>false
def cellsOf:ap→List ap
 |.agg cs=>cs
 |v=>[v]
def aC:ap→Nat
 |.agg cs=>cs.length
 |.any|.tup _|.frs _ _|.asl ..=>0
 |_=>1
def uj(a:Bool)(s:Nat)(x:ap)(off:Nat):Option ap:=
 if off=0∧aC x=s∧isAgg x=a then some x
 else if a then (if off+s≤aC x then some (.agg (((cellsOf x).drop off).take s)) else none)
 else (cellsOf x)[off]?
def yT(s:Nat)(x:ap)(off:Nat)(v:ap):Option ap:=
 if aC v=s then
  if off=0∧aC x=s∧isAgg x=isAgg v then some v
  else if off+s≤aC x∧isAgg x=true then some (.agg ((cellsOf x).take off++cellsOf v++(cellsOf x).drop (off+s)))
  else none
 else none
def sliceAt(σ:ay)(id ep off len:Nat):Option (List ap):=
 match σ[id]? with
 |some (.arr _ e es)=>if e=ep∧off+len≤es.length then some ((es.drop off).take len) else none
 |_=>none
def p7(σ:ay)(id ep i:Nat):Option ap:=
 match σ[id]? with
 |some (.arr _ e es)=>if e=ep then es[i]? else none
 |_=>none
def VV(σ:ay)(id:Nat):Option Nat:=
 match σ[id]? with
 |some (.arr k _ _)=>some k
 |_=>none
def fresh(σ:ay)(id ep:Nat):Bool:=
 match σ[id]? with
 |some (.arr _ e _)=>e==ep
 |_=>false
def gX(σ:ay)(id:Nat):Option (List (ap×ap)):=
 match σ[id]? with
 |some (.map es)=>some es
 |_=>none
def mb(fl:Bool)(l l':List ap):ap:=if l'.map aC=l.map aC then .aa fl l' else .any
def jh(fl:Bool)(x x':ap)(off:Nat):ap:=if aC x'=aC x then .cptr fl x' off else .any
def fz(fl top:Bool)(base:Nat)(σ:ay):Nat→ap→ap
 |0,_=>.any
 |n+1,v=>match v with
  |.agg cs=>.agg (cs.map (fz fl top base σ n))
  |.tup vs=>.tup (vs.map (fz fl top base σ n))
  |.aj=>if !fl&&top then .aj else .aa false []
  |.aa b xs=>if b&&!fl&&!top then .any else .aa b xs
  |.lst xs=>mb fl xs (xs.map (fz fl false base σ n))
  |.cptr b x o=>if b then (if fl then jh true x (fz fl false base σ n x) o else if top then jh true x (fz fl top base σ n x) o else .any) else .cptr false x o
  |.imap b es=>if b&&!fl&&!top then .any else .imap b es
  |.sl id ep off len=>if id<base then (if top then .sl id ep off len else .any) else (sliceAt σ id ep off len).elim .any fun l=>mb fl l (l.map (fz fl false base σ n))
  |.ptr id ep i off=>if id<base then (if top then .ptr id ep i off else .any) else (p7 σ id ep i).elim .any fun x=>jh fl x (fz fl false base σ n x) off
  |.asl id ep i off m=>if id<base&&top then .asl id ep i off m else .any
  |.mp id=>if id<base then (if top then .mp id else .any) else (gX σ id).elim .any fun es=>.imap fl (es.map fun e=>(e.1,fz fl false base σ n e.2))
  |.fn f first cap=>.fn f (first.map (fz fl top base σ n)) (cap.map (fz fl top base σ n))
  |.yld l site env=>if l<base&&top then .yld l site (env.map (fz fl top base σ n)) else .any
  |.frs _ _=>.any
  |v=>v
def iB:Nat:=20
def fS(σ:ay)(v:ap):ap:=fz true false 0 σ iB v
def lz(σ:ay)(v:ap):ap:=fz false false 0 σ iB v
def ec(base:Nat)(σ:ay)(v:ap):ap:=fz false true base σ iB v
def RH(k ep:Nat)(l l':List ap):Obj:=if l'.map aC=l.map aC then .arr k ep l' else .dead
def aH(base:Nat)(σ:ay):Obj→Obj
 |.arr k ep es=>RH k ep es (es.map (ec base σ))
 |.map es=>.map (es.map fun e=>(e.1,ec base σ e.2))
 |o=>o
def neg(n:Bool)(t:Bool):ap:=.bool (if n then !t else t)
def rd(σ:ay):ap→Option (List ap)
 |.aa _ xs=>some xs
 |.lst xs=>some xs
 |.aj=>some []
 |.emp _=>some []
 |.sl id ep off len=>sliceAt σ id ep off len
 |.str s=>some (s.map fun c=>.int .u8 c.toNat)
 |_=>none
mutual
def same:ap→ap→Bool
 |.int k n,.int k' n'=>k==k'&&n==n'
 |.bool a,.bool b=>a==b
 |.str a,.str b=>a==b
 |.nilp,.nilp=>true
 |.nilf,.nilf=>true
 |.nilm,.nilm=>true
 |.agg a,.agg b=>oB a b
 |.tup a,.tup b=>oB a b
 |.aa b xs,.aa b' ys=>b==b'&&oB xs ys
 |.lst xs,.lst ys=>oB xs ys
 |.aj,.aj=>true
 |.sl a b c d,.sl a' b' c' d'=>a==a'&&b==b'&&c==c'&&d==d'
 |.ptr a b c d,.ptr a' b' c' d'=>a==a'&&b==b'&&c==c'&&d==d'
 |.asl a b c d e,.asl a' b' c' d' e'=>a==a'&&b==b'&&c==c'&&d==d'&&e==e'
 |.cptr b x o,.cptr b' y o'=>b==b'&&same x y&&o==o'
 |.fn f a b,.fn f' a' b'=>f==f'&&oB a a'&&oB b b'
 |.imap b es,.imap b' es'=>b==b'&&w8 es es'
 |.mp a,.mp b=>a==b
 |.yld l s env,.yld l' s' env'=>l==l'&&s==s'&&oB env env'
 |.frs k xs,.frs k' ys=>k==k'&&oB xs ys
 |.emp a,.emp b=>a==b
 |.any,.any=>true
 |_,_=>false
def oB:List ap→List ap→Bool
 |[],[]=>true
 |a::x,b::y=>same a b&&oB x y
 |_,_=>false
def w8:List (ap×ap)→List (ap×ap)→Bool
 |[],[]=>true
 |(a,b)::x,(a',b')::y=>same a a'&&same b b'&&w8 x y
 |_,_=>false
end
def Md:Obj→Obj→Bool
 |.arr k e xs,.arr k' e' ys=>k==k'&&e==e'&&oB xs ys
 |.map es,.map es'=>w8 es es'
 |.pend b j,.pend b' j'=>b==b'&&decide (j=j')
 |.dead,.dead=>true
 |_,_=>false
def oZ:ay→ay→Bool
 |[],[]=>true
 |a::x,b::y=>Md a b&&oZ x y
 |_,_=>false
inductive cP where
 |env (i:Nat)
 |loc (j:Nat)
 |val (v:ap)
 deriving Inhabited
inductive Ee where
 |mov (x:cP)
 |pick (c a b:cP)
 |box (k:Nat) (x:cP)
 |build (zero:List ap) (parts:List (Nat×Nat×cP))
 |mknil (k:Nat)
 |mkl (k:Nat) (xs:List cP)
 |mksl (k:Nat) (xs:List cP)
 |mkslz (k:Nat) (zero:ap) (n:Nat) (parts:List (Nat×cP))
 |make (k:Nat) (zero:ap) (n c:cP)
 |load (a:Bool) (s:Nat) (x:cP)
 |store (s:Nat) (x v:cP)
 |fld (off:Nat) (x:cP)
 |fldv (a:Bool) (s off:Nat) (x:cP)
 |idxs (k:Nat) (x i:cP)
 |idxa (n s:Nat) (x i:cP)
 |idxv (a:Bool) (n s:Nat) (x i:cP)
 |idxt (x i:cP)
 |bin (op:BinOp) (x y:cP)
 |eqb (n:Bool) (x y:cP)
 |eqa (n:Bool) (ks:List Nat) (x y:cP)
 |isnil (n:Bool) (x:cP)
 |nils (n:Bool) (x:cP)
 |una (op:UnOp) (x:cP)
 |conv (k:IntKind) (x:cP)
 |slice (k:Nat) (x:cP) (lo hi:Option cP)
 |slicet (x:cP) (lo hi:Option cP)
 |slice0 (x:cP)
 |aslice (n:Nat) (x:cP)
 |len (x:cP)
 |lent (x:cP)
 |cap (x:cP)
 |app (k:Nat) (x y:cP)
 |appz (k:Nat) (zero:ap) (x n:cP)
 |copy (k:Nat) (x y:cP)
 |mins (x:cP) (xs:List cP)
 |maxs (x:cP) (xs:List cP)
 |mkfn (f:Nat) (first cap:List cP)
 |ext (i:Nat) (x:cP)
 |nilck (x:cP)
 |call (f:Nat) (args:List cP) (mat:Bool)
 |callv (f:cP) (args:List cP)
 |mkmap
 |mput (m k v:cP)
 |look (zero:ap) (ok:Bool) (m k:cP)
 |mlen (m:cP)
 |clr (zero:ap) (x:cP)
 |bad
 deriving Inhabited
structure cj where
 op:Ee
 guard:Option (cP×Bool):=none
 deriving Inhabited
inductive az where
 |skip
 |reg (ops:List cj) (oX:List (Nat×cP))
 |regd (ops:List cj) (oX:List (Nat×cP)) (chk:List (Nat×Nat))
 |seq (a b:az)
 |cond (c:cP) (a b:az)
 |blk (id:Nat) (b:az)
 |loop (clr:List Nat) (b:az)
 |exit (id:Nat)
 |ret
 |rng (n:Nat) (f:cP) (site:Nat)
 |scope (b:az)
 |lift (i off k:Nat) (b:az)
 deriving Inhabited
inductive Af where
 |pure
 |fresh (k:Nat)
 |keep
 |trunc
 deriving DecidableEq,Inhabited
inductive RI where
 |env (i:Nat)
 |cell (a:Bool) (s i:Nat)
 deriving Inhabited
structure aS where
 nenv:Nat
 np:Nat
 mode:Af
 res:List RI
 body:az
 deriving Inhabited
structure re where
 nenv:Nat
 params:List Nat
 pre:az
 body:az
 deriving Inhabited
abbrev gn:=Nat→List ap→ay→Option (ap×ay)
abbrev afM:=gn→List ap→ay→Option (ap×ay)
inductive jR where
 |none
 |fn (f:aS)
 |nilfn (f:aS)
 |round (r:re)
 |prim (k:Nat)
 deriving Inhabited
def mK(l:List ap)(i:Nat):ap:=l[i]?.getD .any
def cP.eval(env ls:List ap):cP→ap
 |.env i=>mK env i
 |.loc j=>mK ls j
 |.val v=>v
def p5:ap→ap→Option Bool
 |.int k a,.int k' b=>if k=k' then some (a==b) else none
 |.bool a,.bool b=>some (a==b)
 |.str a,.str b=>some (a==b)
 |_,_=>none
def lN:List ap→List ap→Option Bool
 |[],[]=>some true
 |a::x,b::y=>(p5 a b).bind fun t=>if t then lN x y else (lN x y).map fun _=>false
 |_,_=>none
def acL:ap→Option Bool
 |.nilp|.nilf|.nilm=>some true
 |.cptr ..|.fn ..=>some false
 |_=>none
def intBits(op:BinOp)(k:IntKind)(x y:Int):Option Int:=
 let a:=BitVec.ofInt k.bits x
 let b:=BitVec.ofInt k.bits y
 match op with
 |.and=>some (k.wrap (a &&& b).toNat)
 |.or=>some (k.wrap (a |||b).toNat)
 |.xor=>some (k.wrap (a ^^^ b).toNat)
 |.andNot=>some (k.wrap (a &&& ~~~b).toNat)
 |_=>none
def Ip(op:BinOp)(k:IntKind)(a b:Int):Option ap:=
 match op with
 |.add=>some (.int k (k.wrap (a+b)))
 |.sub=>some (.int k (k.wrap (a-b)))
 |.mul=>some (.int k (k.wrap (a*b)))
 |.quo=>if b=0 then none else some (.int k (k.wrap (a.tdiv b)))
 |.rem=>if b=0 then none else some (.int k (a.tmod b))
 |.eql=>some (.bool (a==b))
 |.neq=>some (.bool (a != b))
 |.lss=>some (.bool (decide (a<b)))
 |.leq=>some (.bool (decide (a≤b)))
 |.gtr=>some (.bool (decide (a>b)))
 |.geq=>some (.bool (decide (a≥b)))
 |.shl|.shr=>none
 |_=>(intBits op k a b).map (.int k)
def most:Nat:=2^36
def yr(op:BinOp)(a b:List UInt8):Option ap:=
 match op with
 |.add=>if a.length+b.length≤most then some (.str (a++b)) else none
 |.eql=>some (.bool (a==b))
 |.neq=>some (.bool (!(a==b)))
 |.lss=>some (.bool (Op.bytesLess a b))
 |.leq=>some (.bool (Op.bytesLess a b ||a==b))
 |.gtr=>some (.bool (!(Op.bytesLess a b ||a==b)))
 |.geq=>some (.bool (!(Op.bytesLess a b)))
 |_=>none
def shift(op:BinOp)(k:IntKind)(a b:Int):Option ap:=
 if b<0 then none else
 match op with
 |.shl=>some (.int k (k.wrap (a*2^(min b.toNat k.bits))))
 |.shr=>some (.int k (a.fdiv (2^(min b.toNat k.bits))))
 |_=>none
def bin(op:BinOp)(x y:ap):Option ap:=
 match x,y with
 |.int k a,.int k' b=>
  match op with
  |.shl=>shift op k a b
  |.shr=>shift op k a b
  |_=>if k=k' then Ip op k a b else none
 |.str a,.str b=>yr op a b
 |_,_=>none
def eqb(n:Bool)(x y:ap):Option ap:=
 match x,y with
 |.bool a,.bool b=>some (neg n (a==b))
 |_,_=>none
def AI:ap→Nat
 |.int ..=>0
 |.bool _=>1
 |.str _=>2
 |_=>3
def fh:List Nat→List ap→List ap→Option Bool
 |[],_,_=>some true
 |k::ks,a::x,b::y=>if AI a=k then (p5 a b).bind fun t=>if t then fh ks x y else some false else none
 |_,_,_=>none
def eqa(n:Bool)(ks:List Nat)(x y:ap):Option ap:=
 match x,y with
 |.agg a,.agg b=>(fh ks a b).map (neg n)
 |_,_=>none
def isnil(n:Bool)(x:ap):Option ap:=(acL x).map (neg n)
def gd(σ:ay)(x:ap):Bool:=
 match x with
 |.str _=>false
 |x=>match rd σ x with
  |some []=>true
  |_=>false
def lj(n:Bool)(σ:ay)(x:ap):Option ap:=
 match x with
 |.emp b=>some (neg n b)
 |.str _=>none
 |x=>match rd σ x with
  |some (_::_)=>some (neg n false)
  |_=>none
def una(op:UnOp)(x:ap):Option ap:=
 match op,x with
 |.neg,.int k n=>some (.int k (k.wrap (0-n)))
 |.xor,.int k n=>(intBits .xor k (if k.signed then -1 else k.max) n).map (.int k)
 |.not,.bool b=>some (.bool (!b))
 |_,_=>none
def kM(σ:ay):ap→Option Nat
 |.aa _ xs=>some xs.length
 |.lst xs=>some xs.length
 |.aj=>some 0
 |.emp _=>some 0
 |.sl id ep _ n=>if fresh σ id ep then some n else none
 |_=>none
def GA:ap→Option Nat
 |.str s=>some s.length
 |_=>none
def yF(σ:ay):ap→Bool
 |.aa _ _|.lst _|.aj=>true
 |.sl id ep _ _=>fresh σ id ep
 |_=>false
def nP:ap→Option Nat
 |.int _ n=>if 0≤n then some n.toNat else none
 |_=>none
def aslice(σ:ay)(k:Nat)(x:ap)(lo hi:Nat):Option ap:=
 match x with
 |.aa b xs=>if lo≤hi∧hi≤xs.length∧xs.all (fun y=>aC y==k) then some (.aa b ((xs.drop lo).take (hi-lo))) else none
 |.lst xs=>if lo≤hi∧hi≤xs.length∧xs.all (fun y=>aC y==k) then some (.lst ((xs.drop lo).take (hi-lo))) else none
 |.aj=>if lo=0∧hi=0 then some .aj else none
 |.sl id ep off n=>if lo≤hi∧hi≤n∧VV σ id=some k then some (.sl id ep (off+lo) (hi-lo)) else none
 |_=>none
def Ea(x:ap)(lo hi:Nat):Option ap:=
 match x with
 |.str s=>if lo≤hi∧hi≤s.length then some (.str ((s.drop lo).take (hi-lo))) else none
 |_=>none
def append(k:Nat)(x:ap)(ys:List ap)(σ:ay):Option (ap×ay):=
 if ys.length=0 then (if yF σ x then some (x,σ) else none) else
 if ys.all (fun y=>aC y==k) then
  match x with
  |.aj=>if ys.length≤most then some (.sl σ.length 0 0 ys.length,σ++[.arr k 0 ys]) else none
  |.sl id ep off n=>match σ[id]? with
   |some (.arr k' e es)=>
    if k'=k∧e=ep∧off+n≤es.length∧off=0∧n+ys.length≤most then
     some (.sl id (ep+1) 0 (n+ys.length),σ.set id (.arr k (ep+1) (es.take n++ys)))
    else none
   |_=>none
  |_=>none
 else none
def loadAt(a:Bool)(s:Nat)(p:ap)(σ:ay):Option ap:=
 match p with
 |.cptr _ x off=>uj a s x off
 |.ptr id ep i off=>(p7 σ id ep i).bind fun x=>uj a s x off
 |_=>none
def storeAt(s:Nat)(p v:ap)(σ:ay):Option ay:=
 match p with
 |.ptr id ep i off=>match σ[id]? with
  |some (.arr k e es)=>
   if e=ep then (es[i]?).bind fun x=>(yT s x off v).map fun x'=>σ.set id (.arr k e (es.set i x')) else none
  |_=>none
 |_=>none
def s9(a b:ap):Option Bool:=match a,b with
 |.int k x,.int k' y=>if k=k' then some (x==y) else none
 |_,_=>none
def lookup(k:ap):List (ap×ap)→Option (Option ap)
 |[]=>some none
 |e::r=>match s9 e.1 k with
  |some true=>some (some e.2)
  |some false=>lookup k r
  |none=>none
def mput(k v:ap):List (ap×ap)→Option (List (ap×ap))
 |[]=>some [(k,v)]
 |e::r=>match s9 e.1 k with
  |some true=>some ((e.1,v)::r)
  |some false=>(mput k v r).map (e::·)
  |none=>none
def gG:ap→Bool
 |.int ..=>true
 |_=>false
def Ww(env ls:List ap)(d:Nat):Option cP→Option Nat
 |none=>some d
 |some o=>nP (o.eval env ls)
def fill(zero:List ap):List (Nat×Nat×ap)→Option (List ap)
 |[]=>some zero
 |(off,s,v)::r=>if aC v=s∧s≠0∧off+s≤zero.length then fill (zero.take off++cellsOf v++zero.drop (off+s)) r else none
def JU(l:List ap):List (Nat×ap)→List ap
 |[]=>l
 |(i,v)::r=>JU (l.set i v) r
def tx(lt:Bool):ap→List ap→Option ap
 |x,[]=>some x
 |.int k a,.int k' b::r=>if k=k' then tx lt (.int k (if lt then (if b<a then b else a) else (if a<b then b else a))) r else none
 |_,_=>none
def jc(σ:ay)(l:Nat):Bool:=match σ[l]? with
 |some (.pend false none)=>true
 |_=>false
def qV(C:gn)(f:ap)(args:List ap)(σ:ay):Option (ap×ay):=
 match f with
 |.fn f first cap=>C f (first++args++cap) σ
 |.yld l site env=>if jc σ l then C site (.frs l []::env++args) σ else none
 |_=>none
def FR(C:gn)(f:ap)(args:List ap)(σ:ay):Option (ap×ay):=
 match f with
 |.fn f first cap=>C f (first++args++cap) σ
 |_=>none
def sx(mat:Bool)(v:ap)(σ:ay):ap×ay:=
 match v with
 |.frs k xs=>if mat then (.sl σ.length 0 0 xs.length,σ++[.arr k 0 xs]) else (.aa false xs,σ)
 |v=>(v,σ)
def mater(mat:Bool)(r:ap×ay):ap×ay:=
 match r.1 with
 |.tup (v::vs)=>let q:=sx mat v r.2;(.tup (q.1::vs),q.2)
 |v=>sx mat v r.2
def Gz(σ:ay)(off:Nat):ap→Option ap
 |.ptr id ep i o=>if fresh σ id ep then some (.ptr id ep i (o+off)) else none
 |.cptr b y o=>some (.cptr b y (o+off))
 |_=>none
def zi(σ:ay)(k n:Nat):ap→Option ap
 |.aa b xs=>(xs[n]?).bind fun y=>if aC y=k then some (.cptr b y 0) else none
 |.lst xs=>(xs[n]?).bind fun y=>if aC y=k then some (.cptr true y 0) else none
 |.sl id ep off m=>if n<m∧VV σ id=some k∧fresh σ id ep then some (.ptr id ep (off+n) 0) else none
 |_=>none
def Iq(σ:ay):ap→Option ap
 |.ptr id ep i o=>if fresh σ id ep then some (.ptr id ep i o) else none
 |.cptr b y o=>some (.cptr b y o)
 |.fn f a b=>some (.fn f a b)
 |_=>none
def Rv(k:IntKind):ap→Option ap
 |.int _ n=>some (.int k (k.wrap n))
 |_=>none
def Vy(i:Nat):ap→Option ap
 |.tup vs=>vs[i]?
 |_=>none
def MD(n:Nat):ap→Option ap
 |.str t=>(t[n]?).map fun c=>.int .u8 c.toNat
 |_=>none
def BU(σ:ay):ap→Option (List (ap×ap))
 |.imap _ es=>some es
 |.nilm=>some []
 |.mp id=>gX σ id
 |_=>none
def Mn(σ:ay)(key v:ap):ap→Option ay
 |.mp id=>(gX σ id).bind fun es=>if gG key then (mput key v es).map fun es'=>σ.set id (.map es') else none
 |_=>none
def Vb(σ:ay)(zero:ap):ap→Option ay
 |.sl id ep off n=>match σ[id]? with
  |some (.arr k e es)=>if e=ep∧off+n≤es.length∧aC zero=k then some (σ.set id (.arr k e (es.take off++List.replicate n zero++es.drop (off+n)))) else none
  |_=>none
 |.aj=>some σ
 |_=>none
def Rc(a b:ap):ap→Option ap
 |.bool t=>some (if t then a else b)
 |_=>none
def Fq(a:Bool)(s off:Nat)(x:ap):Option ap:=if isAgg x=true∧aC x≠0 then uj a s x off else none
def W5(σ:ay)(n:Nat):ap→Option ap
 |.ptr id ep i o=>if fresh σ id ep then some (.asl id ep i o n) else none
 |_=>none
def Zm:ap→Nat
 |.sl _ _ _ n=>n
 |.asl _ _ _ _ n=>n
 |_=>0
def G4(σ:ay)(n:Nat):ap→Option (List ap)
 |.sl id ep off len=>(rd σ (.sl id ep off len)).map (·.take n)
 |y=>rd σ y
def Ml(σ:ay)(k0:Nat)(ys:List ap):ap→Option ay
 |.asl id ep i off n=>match σ[id]? with
  |some (.arr k e es)=>if e=ep∧k0=1∧ys.length≤n∧ys.all (fun y=>aC y==1&&!isAgg y) then (es[i]?).bind fun x=>
    if isAgg x=true∧off+n≤aC x then some (σ.set id (.arr k e (es.set i (.agg ((cellsOf x).take off++ys++(cellsOf x).drop (off+ys.length)))))) else none
   else none
  |_=>none
 |.sl id ep off n=>match σ[id]? with
  |some (.arr k e es)=>if e=ep∧k=k0∧ys.length≤n∧off+n≤es.length∧ys.all (fun y=>aC y==k) then
    some (σ.set id (.arr k e (es.take off++ys++es.drop (off+ys.length)))) else none
  |_=>none
 |_=>none
def YB:ap→Option ap
 |.aj=>some (.int .i64 0)
 |_=>none
def bD(C:gn)(env ls:List ap)(σ:ay):Ee→Option (ap×ay)
 |.mov x=>some (x.eval env ls,σ)
 |.pick c a b=>(Rc (a.eval env ls) (b.eval env ls) (c.eval env ls)).map (·,σ)
 |.box k x=>let v:=x.eval env ls;if aC v=k then some (.ptr σ.length 0 0 0,σ++[.arr k 0 [v]]) else none
 |.build zero parts=>(fill zero (parts.map fun p=>(p.1,p.2.1,p.2.2.eval env ls))).map fun cs=>(.agg cs,σ)
 |.mknil k=>some (.sl σ.length 0 0 0,σ++[.arr k 0 []])
 |.mkl k xs=>let vs:=xs.map (·.eval env ls);if vs.all (fun v=>aC v==k) then some (.lst vs,σ) else none
 |.mksl k xs=>let vs:=xs.map (·.eval env ls)
  if vs=[] then some (.aj,σ) else
  if vs.all (fun v=>aC v==k) then some (.sl σ.length 0 0 vs.length,σ++[.arr k 0 vs]) else none
 |.mkslz k zero n parts=>let vs:=JU (List.replicate n zero) (parts.map fun p=>(p.1,p.2.eval env ls))
  if vs.all (fun v=>aC v==k) then some (.sl σ.length 0 0 n,σ++[.arr k 0 vs]) else none
 |.make k zero n c=>(nP (n.eval env ls)).bind fun m=>(nP (c.eval env ls)).bind fun d=>
   if m=d∧aC zero=k∧m≤most then some (.sl σ.length 0 0 m,σ++[.arr k 0 (List.replicate m zero)]) else none
 |.load a s x=>(loadAt a s (x.eval env ls) σ).map (·,σ)
 |.store s x v=>(storeAt s (x.eval env ls) (v.eval env ls) σ).map (.any,·)
 |.fld off x=>(Gz σ off (x.eval env ls)).map (·,σ)
 |.fldv a s off x=>(Fq a s off (x.eval env ls)).map (·,σ)
 |.idxs k x i=>(nP (i.eval env ls)).bind fun n=>(zi σ k n (x.eval env ls)).map (·,σ)
 |.idxa m s x i=>(nP (i.eval env ls)).bind fun n=>if n<m then (Gz σ (n*s) (x.eval env ls)).map (·,σ) else none
 |.idxv a m s x i=>(nP (i.eval env ls)).bind fun n=>if n<m then (Fq a s (n*s) (x.eval env ls)).map (·,σ) else none
 |.idxt x i=>(nP (i.eval env ls)).bind fun n=>(MD n (x.eval env ls)).map (·,σ)
 |.bin op x y=>(bin op (x.eval env ls) (y.eval env ls)).map (·,σ)
 |.eqb n x y=>(eqb n (x.eval env ls) (y.eval env ls)).map (·,σ)
 |.eqa n ks x y=>(eqa n ks (x.eval env ls) (y.eval env ls)).map (·,σ)
 |.isnil n x=>(isnil n (x.eval env ls)).map (·,σ)
 |.nils n x=>(lj n σ (x.eval env ls)).map (·,σ)
 |.una op x=>(una op (x.eval env ls)).map (·,σ)
 |.conv k x=>(Rv k (x.eval env ls)).map (·,σ)
 |.slice k x lo hi=>let v:=x.eval env ls
  (kM σ v).bind fun n=>(Ww env ls 0 lo).bind fun l=>(Ww env ls n hi).bind fun h=>(aslice σ k v l h).map (·,σ)
 |.slicet x lo hi=>let v:=x.eval env ls
  (GA v).bind fun n=>(Ww env ls 0 lo).bind fun l=>(Ww env ls n hi).bind fun h=>(Ea v l h).map (·,σ)
 |.slice0 x=>(kM σ (x.eval env ls)).map fun _=>(.aj,σ)
 |.aslice n x=>(W5 σ n (x.eval env ls)).map (·,σ)
 |.len x=>(kM σ (x.eval env ls)).map fun (n:Nat)=>(.int .i64 (n:Int),σ)
 |.lent x=>(GA (x.eval env ls)).map fun (n:Nat)=>(.int .i64 (n:Int),σ)
 |.cap x=>(YB (x.eval env ls)).map (·,σ)
 |.app k x y=>(rd σ (y.eval env ls)).bind fun ys=>append k (x.eval env ls) ys σ
 |.appz k zero x n=>(nP (n.eval env ls)).bind fun m=>if aC zero=k∧m≤most then append k (x.eval env ls) (List.replicate m zero) σ else none
 |.copy k x y=>(G4 σ (Zm (x.eval env ls)) (y.eval env ls)).bind fun ys=>(Ml σ k ys (x.eval env ls)).map fun σ'=>(.int .i64 (ys.length:Int),σ')
 |.mins x xs=>(tx true (x.eval env ls) (xs.map (·.eval env ls))).map (·,σ)
 |.maxs x xs=>(tx false (x.eval env ls) (xs.map (·.eval env ls))).map (·,σ)
 |.mkfn f first cap=>some (.fn f (first.map (·.eval env ls)) (cap.map (·.eval env ls)),σ)
 |.ext i x=>(Vy i (x.eval env ls)).map (·,σ)
 |.nilck x=>(Iq σ (x.eval env ls)).map (·,σ)
 |.call f args mat=>(C f (args.map (·.eval env ls)) σ).map (mater mat)
 |.callv f args=>(qV C (f.eval env ls) (args.map (·.eval env ls)) σ).map (mater false)
 |.mkmap=>some (.mp σ.length,σ++[.map []])
 |.mput m k v=>(Mn σ (k.eval env ls) (v.eval env ls) (m.eval env ls)).map (.any,·)
 |.look zero ok m k=>if gG (k.eval env ls) then (BU σ (m.eval env ls)).bind fun es=>(lookup (k.eval env ls) es).map fun r=>(if ok then .tup [r.getD zero,.bool r.isSome] else r.getD zero,σ) else none
 |.mlen m=>(BU σ (m.eval env ls)).map fun es=>(.int .i64 (es.length:Int),σ)
 |.clr zero x=>(Vb σ zero (x.eval env ls)).map (.any,·)
 |.bad=>none
def wanted(env ls:List ap):Option (cP×Bool)→Option Bool
 |none=>some true
 |some (j,b)=>match j.eval env ls with
  |.bool t=>some (t==b)
  |.tup []=>some false
  |_=>none
def ku(C:gn)(env:List ap):List cj→List ap→ay→Option (List ap×ay)
 |[],ls,σ=>some (ls,σ)
 |i::r,ls,σ=>match wanted env ls i.guard with
  |some true=>(bD C env ls σ i.op).bind fun q=>ku C env r (ls++[q.1]) q.2
  |some false=>ku C env r (ls++[.tup []]) σ
  |none=>none
def pX(C:gn)(env:List ap):List cj→List ap→List ay→ay→Option (List ap×List ay×ay)
 |[],ls,ss,σ=>some (ls,ss,σ)
 |i::r,ls,ss,σ=>match wanted env ls i.guard with
  |some true=>(bD C env ls σ i.op).bind fun q=>pX C env r (ls++[q.1]) (ss++[σ]) q.2
  |some false=>pX C env r (ls++[.tup []]) (ss++[σ]) σ
  |none=>none
def oa(C:gn)(env ls:List ap)(ops:List cj)(ss:List ay):List (Nat×Nat)→Option Unit
 |[]=>some ()
 |(n,j)::r=>match ops[n]?,ss[j]? with
  |some i,some τ=>(bD C env (ls.take n) τ i.op).bind fun q=>if same q.1 (mK ls n)&&oZ q.2 τ then oa C env ls ops ss r else none
  |_,_=>none
def oX(env old ls:List ap):List (Nat×cP)→List ap
 |[]=>env
 |(s,j)::r=>oX (env.set s (j.eval old ls)) old ls r
structure St where
 env:List ap
 st:ay
def clear(env:List ap):List Nat→List ap
 |[]=>env
 |i::r=>clear (env.set i .any) r
def aE(base:Nat)(clr:List Nat)(s:St):St:=
 if s.st.length=base then ⟨clear s.env clr,s.st⟩
 else ⟨(clear s.env clr).map (ec base s.st),(s.st.take base).map (aH base s.st)⟩
def oL(base:Nat)(clr:List Nat)(f:St→Option (Ex×St)):Nat→St→Option (Ex×St)
 |0,_=>none
 |n+1,s=>(f s).bind fun r=>match r.1 with
  |.nrm=>oL base clr f n (aE base clr r.2)
  |e=>some (e,r.2)
def jC(l:Nat)(env:List ap)(σ:ay):Option (Ex×St):=
 match σ[l]? with
 |some (.pend false none)=>some (.nrm,⟨env,σ.set l .dead⟩)
 |some (.pend false (some e))=>some (e,⟨env,σ.set l .dead⟩)
 |_=>none
def Bn(id ep j q k:Nat)(σ:ay):Option ay:=
 match σ[id]? with
 |some (.arr k' e es)=>if e=ep∧k≠0 then (match es[j]? with
  |some (.agg cs)=>(match cs[q]? with
   |some .aj=>some (σ.set id (.arr k' e (es.set j (.agg (cs.set q (.sl σ.length 0 0 0)))))++[.arr k 0 []])
   |_=>none)
  |some .aj=>if q=0 then some (σ.set id (.arr k' e (es.set j (.sl σ.length 0 0 0)))++[.arr k 0 []]) else none
  |_=>none) else none
 |_=>none
def yZ(id ep k:Nat):Nat→ay→Option ay
 |0,σ=>some σ
 |n+1,σ=>(yZ id ep k n σ).bind fun σ'=>Bn id ep n 0 k σ'
def FE(p:ap)(off k:Nat)(σ:ay):Option ay:=
 match p with
 |.ptr id ep j o=>Bn id ep j (o+off) k σ
 |.sl id ep o n=>if off=999 then (if o=0 then yZ id ep k n σ else none) else Bn id ep (o+off) 0 k σ
 |_=>none
def exec(C:gn)(n:Nat):az→St→Option (Ex×St)
 |.skip,s=>some (.nrm,s)
 |.reg ops os,s=>(ku C s.env ops [] s.st).map fun r=>(.nrm,⟨oX s.env s.env r.1 os,r.2⟩)
 |.regd ops os chk,s=>(pX C s.env ops [] [] s.st).bind fun r=>(oa C s.env r.1 ops (r.2.1++[r.2.2]) chk).map fun _=>(.nrm,⟨oX s.env s.env r.1 os,r.2.2⟩)
 |.seq a b,s=>(exec C n a s).bind fun r=>match r.1 with
  |.nrm=>exec C n b r.2
  |e=>some (e,r.2)
 |.cond c a b,s=>match c.eval s.env [] with
  |.bool true=>exec C n a s
  |.bool false=>exec C n b s
  |_=>none
 |.blk id b,s=>(exec C n b s).map fun r=>match r.1 with
  |.ext j=>if j=id then (.nrm,r.2) else r
  |_=>r
 |.loop clr b,s=>oL s.st.length clr (exec C n b) n ⟨clear s.env clr,s.st⟩
 |.exit id,s=>some (.ext id,s)
 |.ret,s=>some (.ret,s)
 |.rng m f site,s=>
  let l:=s.st.length
  if s.env.length=m then
   (FR C (f.eval s.env []) [.yld l site s.env] (s.st++[.pend false none])).bind fun r=>jC l s.env r.2
  else none
 |.scope b,s=>exec C n b s
 |.lift i off k b,s=>(FE (mK s.env i) off k s.st).bind fun σ=>exec C n b ⟨s.env,σ⟩
def Kc(s:St):RI→Option ap
 |.env i=>some (mK s.env i)
 |.cell a n i=>loadAt a n (mK s.env i) s.st
def wF(s:St):List RI→Option (List ap)
 |[]=>some []
 |r::rs=>(Kc s r).bind fun v=>(wF s rs).map (v::·)
def results(s:St)(l:List RI):Option ap:=(wF s l).map fun vs=>match vs with
 |[v]=>v
 |vs=>.tup vs
def Hf(k:Nat)(l l':List ap):ap:=if l'.map aC=l.map aC then .frs k l' else .any
def kB(k:Nat)(σ:ay)(v:ap):ap:=
 match v with
 |.aj=>.frs k []
 |.sl id ep off len=>match σ[id]? with
  |some (.arr k' e es)=>if k'=k∧e=ep∧off=0∧len≤es.length then Hf k (es.take len) ((es.take len).map (lz (σ.set id .dead))) else .any
  |_=>.any
 |_=>.any
def ym(σ:ay):ap→ay
 |.sl id ..=>σ.set id .dead
 |_=>σ
def iq(m:Af)(σ:ay)(s:St)(v:ap):ap×ay:=
 match m with
 |.pure=>(lz s.st v,σ)
 |.fresh k=>(match v with
  |.tup (x::vs)=>.tup (kB k s.st x::vs.map (lz (ym s.st x)))
  |x=>kB k s.st x,σ)
 |.keep=>(v,s.st)
 |.trunc=>if s.st.length=σ.length then (v,s.st) else (ec σ.length s.st v,(s.st.take σ.length).map (aH σ.length s.st))
def enter(f:aS)(args:List ap)(σ:ay):St:=
 match f.mode with
 |.pure|.fresh _=>⟨(args.take f.np).map (fS σ)++List.replicate (f.nenv-f.np) .any,[]⟩
 |_=>⟨args.take f.np++List.replicate (f.nenv-f.np) .any,σ⟩
def kF(f:aS)(σ:ay)(r:Ex×St):Option (ap×ay):=
 match r.1 with
 |.ext _=>none
 |_=>(results r.2 f.res).map fun v=>iq f.mode σ r.2 v
def qO(C:gn)(n:Nat)(g:aS)(args:List ap)(σ:ay):Option (ap×ay):=
 (exec C n g.body (enter g args σ)).bind (kF g σ)
def jQ(env:List ap):List Nat→List ap→List ap
 |p::ps,a::es0=>jQ (env.set p a) ps es0
 |_,_=>env
structure Code where
 fns:Nat→jR
 prims:Nat→afM
def eR(l:Nat)(r:Ex×St):Option (ap×ay):=
 match r.2.st[l]? with
 |some (.pend true none)=>
  match r.1 with
  |.nrm=>some (.bool true,r.2.st.set l (.pend false none))
  |e=>some (.bool false,r.2.st.set l (.pend false (some e)))
 |_=>none
def nh(C:gn)(n l:Nat)(b:az)(r:Ex×St):Option (ap×ay):=
 match r.1,r.2.st[l]? with
 |.nrm,some (.pend false none)=>(exec C n b ⟨r.2.env,r.2.st.set l (.pend true none)⟩).bind (eR l)
 |_,_=>none
def dl(P:Code):Nat→gn
 |0=>fun _ _ _=>none
 |n+1=>fun f args σ=>match P.fns f with
  |.none=>none
  |.prim k=>P.prims k (dl P n) args σ
  |.fn g=>qO (dl P n) n g args σ
  |.nilfn g=>match args with
   |x::rest=>
    if gd σ x then (qO (dl P n) n g (.emp true::rest) σ).bind fun r=>(qO (dl P n) n g (.emp false::rest) σ).bind fun q=>if same r.1 q.1&&oZ r.2 q.2 then some r else none
    else qO (dl P n) n g args σ
   |[]=>none
  |.round g=>match args with
   |.frs l _::rest=>
    match σ[l]? with
    |some (.pend false none)=>
     if (rest.drop g.nenv).length=g.params.length then
      (exec (dl P n) n g.pre ⟨jQ (rest.take g.nenv) g.params (rest.drop g.nenv),σ⟩).bind (nh (dl P n) n l g.body)
     else none
    |_=>none
   |_=>none
end Go.AM
namespace Go.AM
set_option linter.unusedSectionVars false
section o8
variable {α β:Type}
def ix(F:Nat→Option α):Prop:=∀n r,F n=some r→F (n+1)=some r
open Classical in
noncomputable def o8(F:Nat→Option α):Option α:=if h:∃n r,F n=some r then F (Classical.choose h) else none
theorem ix.le{F:Nat→Option α}(h:ix F){n m:Nat}(hm:n≤m){r:α}(hr:F n=some r):F m=some r:=by
 induction hm with
 |refl=>exact hr
 |step _ ih=>exact h _ _ ih
theorem mH{F:Nat→Option α}(h:ix F)(r:α):o8 F=some r↔∃n,F n=some r:=by
 unfold o8;constructor
 ·split
  ·exact fun hr=>⟨_,hr⟩
  intro hr;cases hr
 rintro⟨n,hn⟩;have hx:∃n r,F n=some r:=⟨n,r,hn⟩;rw[dif_pos hx];obtain⟨r',hr'⟩:=jB hx;have h1:=h.le (mC n (Classical.choose hx)) hn;have h2:=h.le (ma n (Classical.choose hx)) hr';rw[h1]at h2;cases h2;exact hr'
theorem D1{F:Nat→Option α}(h:ix F){n:Nat}{r:α}(hr:F n=some r):o8 F=some r:=(mH h r).2 ⟨n,hr⟩
theorem zy{a b:Option α}(h:∀r,a=some r↔b=some r):a=b:=by
 cases a with
 |none=>cases b with
  |none=>rfl
  |some y=>exact absurd ((h y).2 rfl) (by simp)
 |some x=>exact ((h x).1 rfl).symm
theorem ix.const(x:Option α):ix fun _=>x:=fun _ _ h=>h
theorem bw(x:Option α):o8 (fun _=>x)=x:=zy fun r=>by rw[mH (ix.const x)];exact⟨fun ⟨_,h⟩=>h,fun h=>⟨0,h⟩⟩
theorem ix.bind{F:Nat→Option α}{G:α→Nat→Option β}(hF:ix F)(hG:∀x,ix (G x)):ix fun n=>(F n).bind fun x=>G x n:=by
 intro n r h;simp only[aN]at h ⊢;obtain⟨x,hx,hr⟩:=h;exact⟨x,hF _ _ hx,hG _ _ _ hr⟩
theorem jX{F:Nat→Option α}{G:α→Nat→Option β}(hF:ix F)(hG:∀x,ix (G x)) :
  o8 (fun n=>(F n).bind fun x=>G x n)=(o8 F).bind fun x=>o8 (G x):=by
 refine zy fun r=>?_;rw[mH (hF.bind hG)];simp only[aN];constructor
 ·rintro⟨n,x,hx,hr⟩;exact⟨x,D1 hF hx,D1 (hG x) hr⟩
 rintro⟨x,hx,hr⟩;obtain⟨n,hn⟩:=(mH hF x).1 hx;obtain⟨m,hm⟩:=(mH (hG x) r).1 hr;exact⟨max n m,x,hF.le (mC n m) hn,(hG x).le (ma n m) hm⟩
theorem ix.map{F:Nat→Option α}(g:α→β)(hF:ix F):ix fun n=>(F n).map g:=by
 intro n r h;simp only[aY]at h ⊢;obtain⟨x,hx,hr⟩:=h;exact⟨x,hF _ _ hx,hr⟩
theorem yY{F:Nat→Option α}(g:α→β)(hF:ix F):o8 (fun n=>(F n).map g)=(o8 F).map g:=by
 refine zy fun r=>?_;rw[mH (hF.map g)];simp only[aY];constructor
 ·rintro⟨n,x,hx,hr⟩;exact⟨x,D1 hF hx,hr⟩
 rintro⟨x,hx,hr⟩;obtain⟨n,hn⟩:=(mH hF x).1 hx;exact⟨n,x,hn,hr⟩
theorem ix.shift{F:Nat→Option α}(hF:ix F):ix fun n=>F (n+1):=fun n r h=>hF _ _ h
theorem A8{F:Nat→Option α}(hF:ix F):o8 (fun n=>F (n+1))=o8 F:=by
 refine zy fun r=>?_;rw[mH hF.shift,mH hF];exact⟨fun ⟨n,h⟩=>⟨n+1,h⟩,fun ⟨n,h⟩=>⟨n,hF _ _ h⟩⟩
end o8
def TX(C D:gn):Prop:=∀f args σ r,C f args σ=some r→D f args σ=some r
theorem rW{C D:gn}(h:TX C D){env ls:List ap}{σ:ay}{o:Ee}{r:ap×ay}(hr:bD C env ls σ o=some r) :
  bD D env ls σ o=some r:=by
 cases o
 case call f args mat=>
  simp only[bD,aY]at hr ⊢;obtain⟨x,hx,rfl⟩:=hr;exact⟨x,h _ _ _ _ hx,rfl⟩
 case callv f args=>
  simp only[bD,aY]at hr ⊢;obtain⟨x,hx,rfl⟩:=hr;refine⟨x,?_,rfl⟩;unfold qV at hx ⊢;split at hx
  ·exact h _ _ _ _ hx
  ·split at hx
   ·rename_i hp;rw[if_pos hp];exact h _ _ _ _ hx
   cases hx
  cases hx
 all_goals exact hr
theorem pB{C D:gn}(h:TX C D){env:List ap}:∀{is:List cj} {ls:List ap} {σ:ay} {r:List ap×ay},
  ku C env is ls σ=some r→ku D env is ls σ=some r
 |[],_,_,_,hr=>hr
 |i::is,ls,σ,r,hr=>by
  simp only[ku]at hr ⊢;cases hw:wanted env ls i.guard with
  |none=>rw[hw]at hr;cases hr
  |some t=>
   rw[hw]at hr;cases t with
   |false=>exact pB h hr
   |true=>
    simp only[aN]at hr ⊢;obtain⟨q,hq,hr⟩:=hr;exact⟨q,rW h hq,pB h hr⟩
theorem tg{C D:gn}(h:TX C D){env:List ap}:∀{is:List cj} {ls:List ap} {ss:List ay} {σ:ay} {r:List ap×List ay×ay},
  pX C env is ls ss σ=some r→pX D env is ls ss σ=some r
 |[],_,_,_,_,hr=>hr
 |i::is,ls,ss,σ,r,hr=>by
  simp only[pX]at hr ⊢;cases hw:wanted env ls i.guard with
  |none=>rw[hw]at hr;cases hr
  |some t=>
   rw[hw]at hr;cases t with
   |false=>exact tg h hr
   |true=>
    simp only[aN]at hr ⊢;obtain⟨q,hq,hr⟩:=hr;exact⟨q,rW h hq,tg h hr⟩
theorem vq{C D:gn}(h:TX C D){env ls:List ap}{ops:List cj}{ss:List ay}:∀{l:List (Nat×Nat)} {r:Unit},oa C env ls ops ss l=some r→oa D env ls ops ss l=some r
 |[],_,hr=>hr
 |(n,j)::l,r,hr=>by
  simp only[oa]at hr ⊢;split at hr
  ·rw[aN]at hr ⊢;obtain⟨q,hq,hr⟩:=hr;refine⟨q,rW h hq,?_⟩;split at hr
   ·rename_i hc;rw[if_pos hc];exact vq h hr
   cases hr
  cases hr
theorem ri{base:Nat}{clr:List Nat}{f g:St→Option (Ex×St)}(h:∀s r,f s=some r→g s=some r) :
  ∀{n m:Nat} {s:St} {r:Ex×St},n≤m→oL base clr f n s=some r→oL base clr g m s=some r
 |0,_,_,_,_,hr=>by cases hr
 |n+1,0,_,_,hm,_=>by omega
 |n+1,m+1,s,r,hm,hr=>by
  simp only[oL,aN]at hr ⊢;obtain⟨⟨e,q⟩,hx,hr⟩:=hr;refine⟨(e,q),h _ _ hx,?_⟩;cases e with
  |nrm=>exact ri h (by omega) hr
  |ext _=>exact hr
  |ret=>exact hr
theorem gC{C D:gn}(h:TX C D){n m:Nat}(hm:n≤m):∀{c:az} {s:St} {r:Ex×St},exec C n c s=some r→exec D m c s=some r
 |.skip,_,_,hr=>hr
 |.exit _,_,_,hr=>hr
 |.ret,_,_,hr=>hr
 |.reg ops os,s,r,hr=>by
  simp only[exec,aY]at hr ⊢;obtain⟨x,hx,rfl⟩:=hr;exact⟨x,pB h hx,rfl⟩
 |.seq a b,s,r,hr=>by
  simp only[exec,aN]at hr ⊢;obtain⟨⟨e,q⟩,hx,hr⟩:=hr;refine⟨(e,q),gC h hm hx,?_⟩;cases e with
  |nrm=>exact gC h hm hr
  |ext _=>exact hr
  |ret=>exact hr
 |.regd ops os chk,s,r,hr=>by
  simp only[exec]at hr ⊢;rw[aN]at hr ⊢;obtain⟨x,hx,hr⟩:=hr;refine⟨x,tg h hx,?_⟩;rw[aY]at hr ⊢;obtain⟨y,hy,hr⟩:=hr;exact⟨y,vq h hy,hr⟩
 |.cond c a b,s,r,hr=>by
  simp only[exec]at hr ⊢;split at hr
  ·exact gC h hm hr
  ·exact gC h hm hr
  cases hr
 |.blk id b,s,r,hr=>by
  simp only[exec,aY]at hr ⊢;obtain⟨x,hx,rfl⟩:=hr;exact⟨x,gC h hm hx,rfl⟩
 |.loop clr b,s,r,hr=>by
  simp only[exec]at hr ⊢;exact ri (fun s r h'=>gC h hm h') hm hr
 |.scope b,s,r,hr=>by
  simp only[exec]at hr ⊢;exact gC h hm hr
 |.lift i off k b,s,r,hr=>by
  simp only[exec]at hr ⊢;rw[aN]at hr ⊢;obtain⟨x,hx,hr⟩:=hr;exact⟨x,hx,gC h hm hr⟩
 |.rng k f site,s,r,hr=>by
  simp only[exec]at hr ⊢;split at hr
  ·rename_i hk;rw[if_pos hk];rw[aN]at hr ⊢;obtain⟨x,hx,hr⟩:=hr;refine⟨x,?_,hr⟩;unfold FR at hx ⊢;split at hx<;>first|exact h _ _ _ _ hx|cases hx
  cases hr
theorem qT{C D:gn}(h:TX C D){n m:Nat}(hm:n≤m){g:aS}{args:List ap}{σ:ay}{r:ap×ay}(hr:qO C n g args σ=some r):qO D m g args σ=some r:=by
 unfold qO at hr ⊢;rw[aN]at hr ⊢;obtain⟨x,hx,hr⟩:=hr;exact⟨x,gC h hm hx,hr⟩
theorem Ai{C D:gn}(h:TX C D){n m:Nat}(hm:n≤m){l:Nat}{b:az}{q:Ex×St}{r:ap×ay}(hr:nh C n l b q=some r):nh D m l b q=some r:=by
 unfold nh at hr ⊢;split at hr
 ·rename_i h1 h2;rw[aN]at hr ⊢;obtain⟨x,hx,hr⟩:=hr;exact⟨x,gC h hm hx,hr⟩
 cases hr
def Code.Good(P:Code):Prop:=∀k C D args σ r,TX C D→P.prims k C args σ=some r→P.prims k D args σ=some r
theorem fP{P:Code}(hP:P.Good):∀n,TX (dl P n) (dl P (n+1))
 |0=>fun _ _ _ _ h=>by cases h
 |n+1=>fun f args σ r h=>by
  have ih:=fP hP n;simp only[dl]at h ⊢;split at h
  ·cases h
  ·exact hP _ _ _ _ _ _ ih h
  ·exact qT ih (dJ n) h
  ·split at h
   ·split at h
    ·rename_i hc;rw[if_pos hc];rw[aN]at h ⊢;obtain⟨x,hx,hr⟩:=h;refine⟨x,qT ih (dJ n) hx,?_⟩;rw[aN]at hr ⊢;obtain⟨y,hy,hr⟩:=hr;exact⟨y,qT ih (dJ n) hy,hr⟩
    rename_i hc;rw[if_neg hc];exact qT ih (dJ n) h
   cases h
  split at h
  ·split at h
   ·split at h
    ·rename_i hl;rw[if_pos hl];rw[aN]at h ⊢;obtain⟨x,hx,hr⟩:=h;exact⟨x,gC ih (dJ n) hx,Ai ih (dJ n) hr⟩
    cases h
   cases h
  cases h
theorem fw{P:Code}(hP:P.Good)(f:Nat)(args:List ap)(σ:ay):ix fun n=>dl P n f args σ:=
 fun n r h=>fP hP n f args σ r h
noncomputable def cA(P:Code)(f:Nat)(args:List ap)(σ:ay):Option (ap×ay):=o8 fun n=>dl P n f args σ
noncomputable def run(P:Code)(c:az)(s:St):Option (Ex×St):=o8 fun n=>exec (dl P n) n c s
noncomputable def lS(P:Code)(env:List ap)(is:List cj)(ls:List ap)(σ:ay):Option (List ap×ay):=
 o8 fun n=>ku (dl P n) env is ls σ
noncomputable def step(P:Code)(env ls:List ap)(σ:ay)(o:Ee):Option (ap×ay):=o8 fun n=>bD (dl P n) env ls σ o
section eqs
variable {P:Code} (hP:P.Good)
include hP
theorem lE(c:az)(s:St):ix fun n=>exec (dl P n) n c s:=fun n _ h=>gC (fP hP n) (dJ n) h
theorem LF(env:List ap)(is:List cj)(ls:List ap)(σ:ay):ix fun n=>ku (dl P n) env is ls σ:=
 fun n _ h=>pB (fP hP n) h
theorem AH(env ls:List ap)(σ:ay)(o:Ee):ix fun n=>bD (dl P n) env ls σ o:=fun n _ h=>rW (fP hP n) h
theorem PM(env ls:List ap)(σ:ay):lS P env [] ls σ=some (ls,σ):=bw _
theorem Cc(env:List ap)(i:cj)(is:List cj)(ls:List ap)(σ:ay) :
  lS P env (i::is) ls σ=match wanted env ls i.guard with
   |some true=>(step P env ls σ i.op).bind fun q=>lS P env is (ls++[q.1]) q.2
   |some false=>lS P env is (ls++[.tup []]) σ
   |none=>none:=by
 unfold lS;simp only[ku];cases wanted env ls i.guard with
 |none=>exact bw _
 |some t=>cases t with
  |false=>rfl
  |true=>exact jX (G:=fun q n=>ku (dl P n) env is (ls++[q.1]) q.2) (AH hP _ _ _ _) fun x=>LF hP _ _ _ _
theorem Sy(env ls:List ap)(σ:ay)(f:Nat)(args:List cP)(mat:Bool) :
  step P env ls σ (.call f args mat)=(cA P f (args.map (·.eval env ls)) σ).map (mater mat):=by
 unfold step cA;simp only[bD];exact yY _ (fw hP _ _ _)
noncomputable def dS(P:Code)(f:ap)(args:List ap)(σ:ay):Option (ap×ay):=
 match f with
 |.fn f first cap=>cA P f (first++args++cap) σ
 |.yld l site env=>if jc σ l then cA P site (.frs l []::env++args) σ else none
 |_=>none
theorem Tp(f:ap)(args:List ap)(σ:ay):o8 (fun n=>qV (dl P n) f args σ)=dS P f args σ:=by
 cases f
 case yld l site env=>
  simp only[qV,dS];cases jc σ l
  ·exact bw _
  rfl
 all_goals first|rfl|exact bw _
theorem O2(f:ap)(args:List ap)(σ:ay):ix fun n=>qV (dl P n) f args σ:=by
 intro n r h;unfold qV at h ⊢;split at h
 ·exact fP hP n _ _ _ _ h
 ·split at h
  ·rename_i hp;dsimp only;rw[if_pos hp];exact fP hP n _ _ _ _ h
  cases h
 cases h
noncomputable def JL(P:Code)(f:ap)(args:List ap)(σ:ay):Option (ap×ay):=
 match f with
 |.fn f first cap=>cA P f (first++args++cap) σ
 |_=>none
theorem Tu(f:ap)(args:List ap)(σ:ay):o8 (fun n=>FR (dl P n) f args σ)=JL P f args σ:=by
 cases f<;>first|rfl|exact bw _
theorem On(f:ap)(args:List ap)(σ:ay):ix fun n=>FR (dl P n) f args σ:=by
 intro n r h;unfold FR at h ⊢;split at h
 ·exact fP hP n _ _ _ _ h
 cases h
theorem PP(env ls:List ap)(σ:ay)(f:cP)(args:List cP) :
  step P env ls σ (.callv f args)=(dS P (f.eval env ls) (args.map (·.eval env ls)) σ).map (mater false):=by
 unfold step;simp only[bD];rw[yY _ (O2 hP _ _ _),Tp hP]
theorem UP(s:St):run P .skip s=some (.nrm,s):=bw _
theorem VR(id:Nat)(s:St):run P (.exit id) s=some (.ext id,s):=bw _
theorem Y4(s:St):run P .ret s=some (.ret,s):=bw _
theorem Zj(is:List cj)(os:List (Nat×cP))(s:St) :
  run P (.reg is os) s=(lS P s.env is [] s.st).map fun r=>(.nrm,⟨oX s.env s.env r.1 os,r.2⟩):=by
 unfold run lS;simp only[exec];exact yY _ (LF hP _ _ _ _)
noncomputable def xY(P:Code)(env:List ap)(is:List cj)(ls:List ap)(ss:List ay)(σ:ay):Option (List ap×List ay×ay):=
 o8 fun n=>pX (dl P n) env is ls ss σ
theorem VD(env:List ap)(is:List cj)(ls:List ap)(ss:List ay)(σ:ay):ix fun n=>pX (dl P n) env is ls ss σ:=
 fun n _ h=>tg (fP hP n) h
theorem XW(env ls:List ap)(ss:List ay)(σ:ay):xY P env [] ls ss σ=some (ls,ss,σ):=bw _
theorem GR(env:List ap)(i:cj)(is:List cj)(ls:List ap)(ss:List ay)(σ:ay) :
  xY P env (i::is) ls ss σ=match wanted env ls i.guard with
   |some true=>(step P env ls σ i.op).bind fun q=>xY P env is (ls++[q.1]) (ss++[σ]) q.2
   |some false=>xY P env is (ls++[.tup []]) (ss++[σ]) σ
   |none=>none:=by
 unfold xY;simp only[pX];cases wanted env ls i.guard with
 |none=>exact bw _
 |some t=>cases t with
  |false=>rfl
  |true=>exact jX (G:=fun q n=>pX (dl P n) env is (ls++[q.1]) (ss++[σ]) q.2) (AH hP _ _ _ _) fun x=>VD hP _ _ _ _ _
noncomputable def oO(P:Code)(env ls:List ap)(ops:List cj)(ss:List ay)(l:List (Nat×Nat)):Option Unit:=o8 fun n=>oa (dl P n) env ls ops ss l
theorem DA(env ls:List ap)(ops:List cj)(ss:List ay)(l:List (Nat×Nat)):ix fun n=>oa (dl P n) env ls ops ss l:=fun n _ h=>vq (fP hP n) h
theorem NF(env ls:List ap)(ops:List cj)(ss:List ay):oO P env ls ops ss []=some ():=bw _
theorem Lk(env ls:List ap)(ops:List cj)(ss:List ay)(n j:Nat)(l:List (Nat×Nat)) :
  oO P env ls ops ss ((n,j)::l)=match ops[n]?,ss[j]? with
   |some i,some τ=>(step P env (ls.take n) τ i.op).bind fun q=>if same q.1 (mK ls n)&&oZ q.2 τ then oO P env ls ops ss l else none
   |_,_=>none:=by
 unfold oO;simp only[oa];cases ops[n]? with
 |none=>exact bw _
 |some i=>cases ss[j]? with
  |none=>exact bw _
  |some τ=>
   dsimp only;rw[jX (G:=fun q k=>if same q.1 (mK ls n)&&oZ q.2 τ then oa (dl P k) env ls ops ss l else none) (AH hP _ _ _ _) fun q=>?_]
   ·unfold step;congr 1;funext q;split
    ·rfl
    exact bw _
   split
   ·exact DA hP _ _ _ _ _
   exact ix.const _
theorem Ws(is:List cj)(os:List (Nat×cP))(chk:List (Nat×Nat))(s:St) :
  run P (.regd is os chk) s=(xY P s.env is [] [] s.st).bind fun r=>(oO P s.env r.1 is (r.2.1++[r.2.2]) chk).map fun _=>(.nrm,⟨oX s.env s.env r.1 os,r.2.2⟩):=by
 unfold run xY oO;simp only[exec];rw[jX (G:=fun r n=>(oa (dl P n) s.env r.1 is (r.2.1++[r.2.2]) chk).map fun _=>(Ex.nrm,(⟨oX s.env s.env r.1 os,r.2.2⟩:St))) (VD hP _ _ _ _ _) fun r=>ix.map _ (DA hP _ _ _ _ _)];congr 1;funext r;exact yY _ (DA hP _ _ _ _ _)
theorem Zh(a b:az)(s:St) :
  run P (.seq a b) s=(run P a s).bind fun r=>match r.1 with
   |.nrm=>run P b r.2
   |e=>some (e,r.2):=by
 unfold run;simp only[exec];rw[jX (lE hP a s) (fun r=>?_)]
 ·congr 1;funext r;cases r.1 with
  |nrm=>rfl
  |ext id=>exact bw _
  |ret=>exact bw _
 cases r.1 with
 |nrm=>exact lE hP _ _
 |ext id=>exact ix.const _
 |ret=>exact ix.const _
theorem XM(c:cP)(a b:az)(s:St) :
  run P (.cond c a b) s=match c.eval s.env [] with
   |.bool true=>run P a s
   |.bool false=>run P b s
   |_=>none:=by
 unfold run;simp only[exec];generalize c.eval s.env []=v;cases v with
 |bool b=>cases b<;>rfl
 |_=>exact bw _
theorem YW(id:Nat)(b:az)(s:St) :
  run P (.blk id b) s=(run P b s).map fun r=>match r.1 with
   |.ext j=>if j=id then (.nrm,r.2) else r
   |_=>r:=by
 unfold run;simp only[exec];exact yY _ (lE hP _ _)
theorem Sv(b:az)(s:St):run P (.scope b) s=run P b s:=by
 unfold run;simp only[exec]
theorem XO(i off k:Nat)(b:az)(s:St):run P (.lift i off k b) s=(FE (mK s.env i) off k s.st).bind fun σ=>run P b ⟨s.env,σ⟩:=by
 unfold run;simp only[exec];cases FE (mK s.env i) off k s.st with
 |none=>exact bw _
 |some σ=>rfl
theorem ZX(k:Nat)(f:cP)(site:Nat)(s:St) :
  run P (.rng k f site) s=if s.env.length=k then (JL P (f.eval s.env []) [.yld s.st.length site s.env] (s.st++[.pend false none])).bind fun r=>jC s.st.length s.env r.2 else none:=by
 unfold run;simp only[exec];split
 ·rw[jX (On hP _ _ _) (fun r=>ix.const _),Tu hP];congr 1;funext r;exact bw _
 exact bw _
noncomputable def cq(P:Code)(base:Nat)(clr:List Nat)(b:az)(s:St):Option (Ex×St):=
 o8 fun n=>oL base clr (exec (dl P n) n b) n s
theorem ve(base:Nat)(clr:List Nat)(b:az)(s:St):ix fun n=>oL base clr (exec (dl P n) n b) n s:=
 fun n _ h=>ri (fun _ _ h'=>gC (fP hP n) (dJ n) h') (dJ n) h
theorem Ub(clr:List Nat)(b:az)(s:St):run P (.loop clr b) s=cq P s.st.length clr b ⟨clear s.env clr,s.st⟩:=by
 unfold run cq;simp only[exec]
theorem wr(base:Nat)(clr:List Nat)(b:az)(s:St) :
  cq P base clr b s=(run P b s).bind fun r=>match r.1 with
   |.nrm=>cq P base clr b (aE base clr r.2)
   |e=>some (e,r.2):=by
 have h1:cq P base clr b s=o8 fun n=>(exec (dl P n) n b s).bind fun r=>match r.1 with
   |.nrm=>oL base clr (exec (dl P n) n b) n (aE base clr r.2)
   |e=>some (e,r.2):=by
  refine zy fun q=>?_;have hm:ix fun n=>(exec (dl P n) n b s).bind fun r=>match r.1 with
   |.nrm=>oL base clr (exec (dl P n) n b) n (aE base clr r.2)
   |e=>some (e,r.2):=by
   refine ix.bind (G:=fun r n=>match r.1 with
    |.nrm=>oL base clr (exec (dl P n) n b) n (aE base clr r.2)
    |e=>some (e,r.2)) (lE hP b s) fun r=>?_
   cases r.1 with
   |nrm=>exact ve hP _ _ _ _
   |ext id=>exact ix.const _
   |ret=>exact ix.const _
  rw[cq,mH (ve hP base clr b s),mH hm];constructor
  ·rintro⟨n,hn⟩;cases n with
   |zero=>cases hn
   |succ n=>
    refine⟨n+1,?_⟩;rw[oL,aN]at hn;obtain⟨⟨e,q⟩,hx,hr⟩:=hn;rw[aN];refine⟨(e,q),hx,?_⟩;cases e with
    |nrm=>exact ri (fun _ _ h=>h) (dJ n) hr
    |ext _=>exact hr
    |ret=>exact hr
  rintro⟨n,hn⟩;refine⟨n+1,?_⟩;rw[aN]at hn;obtain⟨⟨e,q⟩,hx,hr⟩:=hn;rw[oL,aN];refine⟨(e,q),gC (fP hP n) (dJ n) hx,?_⟩;cases e with
  |nrm=>exact ri (fun _ _ h=>gC (fP hP n) (dJ n) h) (aM n) hr
  |ext _=>exact hr
  |ret=>exact hr
 rw[h1];rw[jX (G:=fun r n=>match r.1 with
   |.nrm=>oL base clr (exec (dl P n) n b) n (aE base clr r.2)
   |e=>some (e,r.2)) (lE hP b s) (fun r=>?_)]
 ·unfold run;congr 1;funext r;cases r.1 with
  |nrm=>rfl
  |ext id=>exact bw _
  |ret=>exact bw _
 cases r.1 with
 |nrm=>exact ve hP _ _ _ _
 |ext id=>exact ix.const _
 |ret=>exact ix.const _
theorem zx{f:Nat}{g:aS}(h:P.fns f=.fn g)(args:List ap)(σ:ay) :
  cA P f args σ=(run P g.body (enter g args σ)).bind (kF g σ):=by
 unfold cA;rw[←A8 (fw hP _ _ _)];simp only[dl,h,qO];rw[jX (lE hP _ _) (fun _=>ix.const _)];unfold run;congr 1;funext r;exact bw _
theorem PH(g:aS)(args:List ap)(σ:ay):ix fun n=>qO (dl P n) n g args σ:=fun n _ h=>qT (fP hP n) (dJ n) h
noncomputable def iH(P:Code)(g:aS)(args:List ap)(σ:ay):Option (ap×ay):=(run P g.body (enter g args σ)).bind (kF g σ)
theorem Bg(g:aS)(args:List ap)(σ:ay):o8 (fun n=>qO (dl P n) n g args σ)=iH P g args σ:=by
 unfold qO iH;rw[jX (lE hP _ _) (fun _=>ix.const _)];unfold run;congr 1;funext r;exact bw _
theorem eB{f:Nat}{g:aS}(h:P.fns f=.nilfn g)(x:ap)(rest:List ap)(σ:ay) :
  cA P f (x::rest) σ=if gd σ x then (iH P g (.emp true::rest) σ).bind fun r=>(iH P g (.emp false::rest) σ).bind fun q=>if same r.1 q.1&&oZ r.2 q.2 then some r else none
   else iH P g (x::rest) σ:=by
 unfold cA;rw[←A8 (fw hP _ _ _)];simp only[dl,h];generalize gd σ x=v;cases v with
 |false=>exact Bg hP _ _ _
 |true=>
   simp only[cW];rw[jX (G:=fun r n=>(qO (dl P n) n g (.emp false::rest) σ).bind fun q=>if same r.1 q.1&&oZ r.2 q.2 then some r else none) (PH hP _ _ _) (fun r=>ix.bind (PH hP _ _ _) fun q=>ix.const _),Bg hP];congr 1;funext r;rw[jX (PH hP _ _ _) (fun q=>ix.const _),Bg hP];congr 1;funext q;exact bw _
noncomputable def gU(P:Code)(l:Nat)(b:az)(r:Ex×St):Option (ap×ay):=
 match r.1,r.2.st[l]? with
 |.nrm,some (.pend false none)=>(run P b ⟨r.2.env,r.2.st.set l (.pend true none)⟩).bind (eR l)
 |_,_=>none
theorem NN(l:Nat)(b:az)(r:Ex×St):ix fun n=>nh (dl P n) n l b r:=fun n _ h=>Ai (fP hP n) (dJ n) h
theorem Tg(l:Nat)(b:az)(r:Ex×St):o8 (fun n=>nh (dl P n) n l b r)=gU P l b r:=by
 unfold nh gU;obtain⟨e,env,σ⟩:=r;cases e with
 |ext _=>exact bw _
 |ret=>exact bw _
 |nrm=>
  dsimp only;generalize σ[l]?=v;have key:o8 (fun n=>(exec (dl P n) n b ⟨env,σ.set l (.pend true none)⟩).bind (eR l))=(run P b ⟨env,σ.set l (.pend true none)⟩).bind (eR l):=by
   rw[jX (lE hP _ _) (fun _=>ix.const _)];unfold run;congr 1;funext q;exact bw _
  cases v with
  |none=>exact bw _
  |some o=>cases o with
   |pend b j=>cases b with
    |true=>exact bw _
    |false=>cases j with
     |none=>exact key
     |some _=>exact bw _
   |_=>exact bw _
theorem mW{f:Nat}{g:re}(h:P.fns f=.round g)(l:Nat)(e rest:List ap)(σ:ay) :
  cA P f (.frs l e::rest) σ=match σ[l]? with
   |some (.pend false none)=>if (rest.drop g.nenv).length=g.params.length then
     (run P g.pre ⟨jQ (rest.take g.nenv) g.params (rest.drop g.nenv),σ⟩).bind (gU P l g.body)
    else none
   |_=>none:=by
 unfold cA;rw[←A8 (fw hP _ _ _)];simp only[dl,h];generalize σ[l]?=v;have key:∀s':St,o8 (fun n=>(exec (dl P n) n g.pre s').bind (nh (dl P n) n l g.body))=(run P g.pre s').bind (gU P l g.body):=fun s'=>by
  rw[jX (G:=fun r n=>nh (dl P n) n l g.body r) (lE hP _ _) (fun r=>NN hP _ _ _)];unfold run;congr 1;funext r;exact Tg hP _ _ _
 cases v with
 |none=>exact bw _
 |some o=>cases o with
  |pend b j=>cases b with
   |true=>exact bw _
   |false=>cases j with
    |none=>
     dsimp only;split
     ·exact key _
     exact bw _
    |some e=>exact bw _
  |_=>exact bw _
theorem nZ{f k n:Nat}(h:P.fns f=.prim k){args:List ap}{σ:ay}{r:ap×ay}(hr:P.prims k (dl P n) args σ=some r) :
  cA P f args σ=some r:=by
 refine D1 (fw hP _ _ _) (n:=n+1) ?_;simp only[dl,h];exact hr
end eqs
end Go.AM
namespace Go.AM
inductive Hd where
 |arr (k ep:Nat)
 |map
 |pend
 |dead
 deriving DecidableEq
def hd(σ:ay)(id:Nat):Hd:=match σ[id]? with
 |some (.arr k ep _)=>.arr k ep
 |some (.map _)=>.map
 |some (.pend _ _)=>.pend
 |some .dead=>.dead
 |none=>.dead
structure ki where
 fn:FuncId
 tmps:Array Value
 params:Array Tmp
 assign:Go.Code
 body:Go.Code
 defers:Nat
structure cX where
 sld:Nat→Prop
 bor:Nat→Prop
 H:Nat→Hd
 N:Nat
 place:Nat→Option Nat
 room:Nat→Nat
 loops:Nat→ki
def cX.still(c:cX)(b:Bool):cX:={ c with bor:=if b then c.bor else c.sld,H:=fun _=>.dead,N:=0 }
abbrev ae9:=Nat→ki→List Nat→Prop
structure cZ where
 fm:Nat→FuncId
 site:ae9
 glob:Nat→Option ap
variable (M:cZ) (w:World)
inductive R:cX→ap→Value→Prop
 |any {c v}:R c .any v
 |emp {c b cap} {a:Option Addr}:a.isNone=b→R c (.emp b) (.slice a 0 cap)
 |int {c k n}:R c (.int k n) (.int k n)
 |bool {c b}:R c (.bool b) (.bool b)
 |str {c s} {t:ByteArray}:t.data.toList=s→R c (.str s) (.string t)
 |nilp {c}:R c .nilp (.pointer none)
 |nilf {c}:R c .nilf .nilFunc
 |nilm {c}:R c .nilm (.map none)
 |agg {c cs} {vs:Array Value} (f:Nat→Value):vs.size=cs.length→(∀i (h:i<cs.length),vs[i]?=some (f i)∧(f i).oneCell'=true) →
   (∀i (h:i<cs.length),aC cs[i]≤1∧isAgg cs[i]=false)→(∀i (h:i<cs.length),R c cs[i] (f i))→R c (.agg cs) (.agg vs)
 |tup {c cs} {vs:Array Value} (f:Nat→Value):vs.size=cs.length→(∀i (h:i<cs.length),vs[i]?=some (f i)) →
   (∀i (h:i<cs.length),R c cs[i] (f i))→R c (.tup cs) (.tuple vs)
 |aa {c b xs cap} {a:Addr} (K:Nat) (f:Nat→Nat→Value):(if b then c.bor a.block else c.sld a.block)→a.spot=none→xs.length≤cap→K≠0 →
   (∀x∈xs,aC x=K)→(∀i j,i<xs.length→j<K→w.cell? ⟨a.block,a.off+i*K+j,none⟩=some (f i j)∧(f i j).oneCell'=true) →
   (∀i (hi:i<xs.length) j (hj:j<(cellsOf xs[i]).length),R (c.still b) (cellsOf xs[i])[j] (f i j))→R c (.aa b xs) (.slice (some a) xs.length cap)
 |imm0 {c b cap} {a:Option Addr}:R c (.aa b []) (.slice a 0 cap)
 |lst {c xs cap} {a:Addr} (K:Nat) (f:Nat→Nat→Value):c.sld a.block→a.spot=none→xs.length≤cap→K≠0 →
   (∀x∈xs,aC x=K)→(∀i j,i<xs.length→j<K→w.cell? ⟨a.block,a.off+i*K+j,none⟩=some (f i j)∧(f i j).oneCell'=true) →
   (∀i (hi:i<xs.length) j (hj:j<(cellsOf xs[i]).length),R c (cellsOf xs[i])[j] (f i j))→R c (.lst xs) (.slice (some a) xs.length cap)
 |lst0 {c cap} {a:Option Addr}:R c (.lst []) (.slice a 0 cap)
 |aj {c} {a:Option Addr}:R c .aj (.slice a 0 0)
 |sl {c id ep off len cap k blk}:id<c.N→c.H id=.arr k ep→c.place id=some blk→len≤cap→(off+cap)*k≤c.room id →
   R c (.sl id ep off len) (.slice (some ⟨blk,off*k,none⟩) len cap)
 |sl0 {c id ep off k} {a:Option Addr}:id<c.N→c.H id=.arr k ep→R c (.sl id ep off 0) (.slice a 0 0)
 |slOld {c id ep off len v}:v.oneCell'=true→id<c.N→(∀k e,c.H id=.arr k e→ep<e)→(c.H id≠.map)→(c.H id≠.pend)→R c (.sl id ep off len) v
 |ptr {c id ep i off k blk}:id<c.N→c.H id=.arr k ep→c.place id=some blk→R c (.ptr id ep i off) (.pointer (some ⟨blk,i*k+off,none⟩))
 |ptrOld {c id ep i off v}:v.oneCell'=true→id<c.N→(∀k e,c.H id=.arr k e→ep<e)→(c.H id≠.map)→(c.H id≠.pend)→R c (.ptr id ep i off) v
 |asl {c id ep i off n k blk}:id<c.N→c.H id=.arr k ep→c.place id=some blk→R c (.asl id ep i off n) (.slice (some ⟨blk,i*k+off,none⟩) n n)
 |aslOld {c id ep i off n v}:id<c.N→(∀k e,c.H id=.arr k e→ep<e)→(c.H id≠.map)→(c.H id≠.pend)→R c (.asl id ep i off n) v
 |cptr {c b x off} {o blk:Nat} (f:Nat→Value):(if b then c.bor blk else c.sld blk)→aC x≠0 →
   (∀j,j<aC x→w.cell? ⟨blk,o+j,none⟩=some (f j)∧(f j).oneCell'=true) →
   (∀j (hj:j<(cellsOf x).length),R (if b then c else c.still false) (cellsOf x)[j] (f j))→R c (.cptr b x off) (.pointer (some ⟨blk,o+off,none⟩))
 |fn {c n first cap} {fs cs:Array Value} (f g:Nat→Value):fs.size=first.length→cs.size=cap.length→(∀i (h:i<first.length),fs[i]?=some (f i))→(∀i (h:i<cap.length),cs[i]?=some (g i)) →
   (∀i (h:i<first.length),R c first[i] (f i))→(∀i (h:i<cap.length),R c cap[i] (g i))→R c (.fn n first cap) (.func (.func (M.fm n)) fs cs)
 |imap {c b es} {r clock:Nat} {en:Array MapEntry} (f g:Nat→Value):(if b then c.bor r else c.sld r)→w.heap[r]?=some (.map en clock)→en.size=es.length →
   (∀i (h:i<es.length),∃e,en[i]?=some e∧e.key=f i∧e.val=g i∧gG (es[i]).1=true)→(∀i (h:i<es.length),R (c.still b) (es[i]).1 (f i))→(∀i (h:i<es.length),R (c.still b) (es[i]).2 (g i)) →
   R c (.imap b es) (.map (some r))
 |mp {c id blk}:id<c.N→c.H id=.map→c.place id=some blk→R c (.mp id) (.map (some blk))
 |mpOld {c id v}:v.oneCell'=true→id<c.N→c.H id=.dead→R c (.mp id) v
 |yld {c l site env em blk} (f:Nat→Value):l<c.N→c.H l=.pend→c.place l=some blk→M.site site (c.loops l) em→em.length=env.length →
   (∀i (h:i<em.length) (hx:i<env.length),(c.loops l).tmps[em[i]]?=some (f i))→(∀i (hx:i<env.length),R c env[i] (f i))→R c (.yld l site env) (.func (.yield blk) #[] #[])
 |yldOld {c l site env v}:v.oneCell'=true→l<c.N→c.H l=.dead→R c (.yld l site env) v
def Hd.le:Hd→Hd→Prop
 |a,b=>a=b∨b=.dead∨(∃k e e',a=.arr k e∧b=.arr k e'∧e<e')
structure Ext (c:cX) (w:World) (c':cX) (w':World):Prop where
 sld:∀b,c.sld b→c'.sld b
 bor:∀b,c.bor b→c'.bor b
 rest:∀b,c.bor b∨c.sld b→w'.heap[b]?=w.heap[b]?
 N:c.N≤c'.N
 head:∀id,id<c.N→(c.H id).le (c'.H id)
 place:∀id,id<c.N→c.H id=c'.H id→c.H id≠.dead→c'.place id=c.place id∧c'.room id=c.room id∧c'.loops id=c.loops id
variable {M w}
theorem Ext.refl(c:cX)(w:World):Ext c w c w:=
 ⟨fun _ h=>h,fun _ h=>h,fun _ _=>rfl,aM _,fun _ _=>.inl rfl,fun _ _ _ _=>⟨rfl,rfl,rfl⟩⟩
theorem Hd.le_refl(a:Hd):a.le a:=.inl rfl
theorem Hd.le_dead{b:Hd}(h:Hd.le .dead b):b=.dead:=by
 rcases h with h|h|⟨k,e,e',h,_⟩
 ·exact h.symm
 ·exact h
 cases h
theorem Ext.still{c c':cX}{w w':World}(h:Ext c w c' w')(b:Bool):Ext (c.still b) w (c'.still b) w' where
 sld:=h.sld
 bor:=by
  intro x hx;cases b
  ·exact h.sld x hx
  exact h.bor x hx
 rest:=by
  intro x hx;cases b
  ·exact h.rest x (.inr (hx.elim id id))
  exact h.rest x hx
 N:=aM _
 head:=fun id hid=>absurd hid (bX _)
 place:=fun id hid=>absurd hid (bX _)
theorem pn{w w':World}{b:Nat}(h:w'.heap[b]?=w.heap[b]?)(off:Nat):w'.cell? ⟨b,off,none⟩=w.cell? ⟨b,off,none⟩:=by
 simp only[World.cell?,h]
theorem R.ext{c c':cX}{w':World}{v:ap}{x:Value}(h:R M w c v x)(he:Ext c w c' w'):R M w' c' v x:=by
 induction h generalizing c' with
 |any=>exact .any
 |emp h=>exact .emp h
 |int=>exact .int
 |bool=>exact .bool
 |str h=>exact .str h
 |nilp=>exact .nilp
 |nilf=>exact .nilf
 |nilm=>exact .nilm
 |agg f h1 h2 h3 _ ih=>exact .agg f h1 h2 h3 fun i hi=>ih i hi he
 |tup f h1 h2 _ ih=>exact .tup f h1 h2 fun i hi=>ih i hi he
 |@aa c b xs cap a K f h1 h2 h3 h4 h5 h6 _ ih=>
  have hr:w'.heap[a.block]?=w.heap[a.block]?:=he.rest _ (by cases b<;>simp at h1<;>simp[h1]);refine .aa K f ?_ h2 h3 h4 h5 (fun i j hi hj=>by rw[pn hr];exact h6 i j hi hj) fun i hi j hj=>ih i hi j hj (he.still b);cases b
  ·exact he.sld _ h1
  exact he.bor _ h1
 |imm0=>exact .imm0
 |@lst c xs cap a K f h1 h2 h3 h4 h5 h6 _ ih=>
  have hr:w'.heap[a.block]?=w.heap[a.block]?:=he.rest _ (.inr h1);exact .lst K f (he.sld _ h1) h2 h3 h4 h5 (fun i j hi hj=>by rw[pn hr];exact h6 i j hi hj) fun i hi j hj=>ih i hi j hj he
 |lst0=>exact .lst0
 |aj=>exact .aj
 |@sl c id ep off len cap k blk h1 h2 h3 h4 h5=>
  have hl:=he.head id h1;have hlt:=bd h1 he.N;by_cases hq:c.H id=c'.H id
  ·obtain⟨p1,p2,_⟩:=he.place id h1 hq (by rw[h2];simp);exact .sl hlt (hq▸h2) (p1▸h3) h4 (p2▸h5)
  rw[h2]at hl hq;rcases hl with hl|hl|⟨k',e,e',hl1,hl2,hl3⟩
  ·exact absurd hl hq
  ·exact .slOld rfl hlt (by rw[hl];simp) (by rw[hl];simp) (by rw[hl];simp)
  cases hl1;exact .slOld rfl hlt (by rw[hl2];rintro k e ⟨⟩;exact hl3) (by rw[hl2];simp) (by rw[hl2];simp)
 |@sl0 c id ep off k a h1 h2=>
  have hl:=he.head id h1;have hlt:=bd h1 he.N;rw[h2]at hl;rcases hl with hl|hl|⟨k',e,e',hl1,hl2,hl3⟩
  ·exact .sl0 hlt hl.symm
  ·exact .slOld rfl hlt (by rw[hl];simp) (by rw[hl];simp) (by rw[hl];simp)
  cases hl1;exact .slOld rfl hlt (by rw[hl2];rintro k e ⟨⟩;exact hl3) (by rw[hl2];simp) (by rw[hl2];simp)
 |@slOld c id ep off len v h0 h1 h2 h3 h4=>
  have hl:=he.head id h1;have hlt:=bd h1 he.N;refine .slOld h0 hlt ?_ ?_ ?_
  ·intro k e hk;rcases hl with hl|hl|⟨k',e1,e',hl1,hl2,hl3⟩
   ·exact h2 k e (hl▸hk)
   ·rw[hl]at hk;cases hk
   rw[hl2]at hk;cases hk;exact kC (h2 _ _ hl1) hl3
  ·rcases hl with hl|hl|⟨k',e1,e',hl1,hl2,hl3⟩
   ·rw[←hl];exact h3
   ·rw[hl];simp
   rw[hl2];simp
  rcases hl with hl|hl|⟨k',e1,e',hl1,hl2,hl3⟩
  ·rw[←hl];exact h4
  ·rw[hl];simp
  rw[hl2];simp
 |@ptr c id ep i off k blk h1 h2 h3=>
  have hl:=he.head id h1;have hlt:=bd h1 he.N;by_cases hq:c.H id=c'.H id
  ·obtain⟨p1,p2,_⟩:=he.place id h1 hq (by rw[h2];simp);exact .ptr hlt (hq▸h2) (p1▸h3)
  rw[h2]at hl hq;rcases hl with hl|hl|⟨k',e,e',hl1,hl2,hl3⟩
  ·exact absurd hl hq
  ·exact .ptrOld rfl hlt (by rw[hl];simp) (by rw[hl];simp) (by rw[hl];simp)
  cases hl1;exact .ptrOld rfl hlt (by rw[hl2];rintro k e ⟨⟩;exact hl3) (by rw[hl2];simp) (by rw[hl2];simp)
 |@ptrOld c id ep i off v h0 h1 h2 h3 h4=>
  have hl:=he.head id h1;have hlt:=bd h1 he.N;refine .ptrOld h0 hlt ?_ ?_ ?_
  ·intro k e hk;rcases hl with hl|hl|⟨k',e1,e',hl1,hl2,hl3⟩
   ·exact h2 k e (hl▸hk)
   ·rw[hl]at hk;cases hk
   rw[hl2]at hk;cases hk;exact kC (h2 _ _ hl1) hl3
  ·rcases hl with hl|hl|⟨k',e1,e',hl1,hl2,hl3⟩
   ·rw[←hl];exact h3
   ·rw[hl];simp
   rw[hl2];simp
  rcases hl with hl|hl|⟨k',e1,e',hl1,hl2,hl3⟩
  ·rw[←hl];exact h4
  ·rw[hl];simp
  rw[hl2];simp
 |@asl c id ep i off n k blk h1 h2 h3=>
  have hl:=he.head id h1;have hlt:=bd h1 he.N;by_cases hq:c.H id=c'.H id
  ·obtain⟨p1,p2,_⟩:=he.place id h1 hq (by rw[h2];simp);exact .asl hlt (hq▸h2) (p1▸h3)
  rw[h2]at hl hq;rcases hl with hl|hl|⟨k',e,e',hl1,hl2,hl3⟩
  ·exact absurd hl hq
  ·exact .aslOld hlt (by rw[hl];simp) (by rw[hl];simp) (by rw[hl];simp)
  cases hl1;exact .aslOld hlt (by rw[hl2];rintro k e ⟨⟩;exact hl3) (by rw[hl2];simp) (by rw[hl2];simp)
 |@aslOld c id ep i off n v h1 h2 h3 h4=>
  have hl:=he.head id h1;have hlt:=bd h1 he.N;refine .aslOld hlt ?_ ?_ ?_
  ·intro k e hk;rcases hl with hl|hl|⟨k',e1,e',hl1,hl2,hl3⟩
   ·exact h2 k e (hl▸hk)
   ·rw[hl]at hk;cases hk
   rw[hl2]at hk;cases hk;exact kC (h2 _ _ hl1) hl3
  ·rcases hl with hl|hl|⟨k',e1,e',hl1,hl2,hl3⟩
   ·rw[←hl];exact h3
   ·rw[hl];simp
   rw[hl2];simp
  rcases hl with hl|hl|⟨k',e1,e',hl1,hl2,hl3⟩
  ·rw[←hl];exact h4
  ·rw[hl];simp
  rw[hl2];simp
 |@cptr c b x off o blk f h1 h2 h3 _ ih=>
  have hr:w'.heap[blk]?=w.heap[blk]?:=he.rest _ (by cases b<;>simp at h1<;>simp[h1]);refine .cptr f ?_ h2 (fun j hj=>by rw[pn hr];exact h3 j hj) ?_
  ·cases b
   ·exact he.sld _ h1
   exact he.bor _ h1
  intro j hj;cases b
  ·exact ih j hj (he.still false)
  exact ih j hj he
 |fn f g h1 h2 h3 h4 _ _ ih1 ih2=>exact .fn f g h1 h2 h3 h4 (fun i hi=>ih1 i hi he) fun i hi=>ih2 i hi he
 |@imap c b es r clock en f g h1 h2 h3 h4 _ _ ih1 ih2=>
  have hr:w'.heap[r]?=w.heap[r]?:=he.rest _ (by cases b<;>simp at h1<;>simp[h1]);refine .imap f g ?_ (hr▸h2) h3 h4 (fun i hi=>ih1 i hi (he.still b)) fun i hi=>ih2 i hi (he.still b);cases b
  ·exact he.sld _ h1
  exact he.bor _ h1
 |@mp c id blk h1 h2 h3=>
  have hl:=he.head id h1;have hlt:=bd h1 he.N;rcases hl with hl|hl|⟨k',e,e',hl1,hl2,hl3⟩
  ·obtain⟨p1,p2,_⟩:=he.place id h1 hl (by rw[h2];simp);exact .mp hlt (hl▸h2) (p1▸h3)
  ·exact .mpOld rfl hlt hl
  rw[h2]at hl1;cases hl1
 |@mpOld c id v h0 h1 h2=>
  have hl:=he.head id h1;rw[h2]at hl;exact .mpOld h0 (bd h1 he.N) (Hd.le_dead hl)
 |@yld c l site env em blk f h1 h2 h3 h4 h5 h6 _ ih=>
  have hl:=he.head l h1;have hlt:=bd h1 he.N;rcases hl with hl|hl|⟨k',e,e',hl1,hl2,hl3⟩
  ·obtain⟨p1,_,p3⟩:=he.place l h1 hl (by rw[h2];simp);exact .yld f hlt (hl▸h2) (p1▸h3) (p3▸h4) h5 (p3▸h6) fun i hi=>ih i hi he
  ·exact .yldOld rfl hlt hl
  rw[h2]at hl1;cases hl1
 |@yldOld c l site env v h0 h1 h2=>
  have hl:=he.head l h1;rw[h2]at hl;exact .yldOld h0 (bd h1 he.N) (Hd.le_dead hl)
end Go.AM
namespace Go.AM
variable (M:cZ) (w:World)
def qM:Ex→Option Go.Code
 |.nrm=>none
 |.ext id=>some (.exit id)
 |.ret=>some .ret
def oM(r:ki)(st:LoopState)(p:Option Go.Code):Loop:=
 { state:=st,pending:=p,fn:=r.fn,tmps:=r.tmps,params:=r.params,assign:=r.assign,body:=r.body,defers:=r.defers }
def vy(c:cX)(id:Nat):Obj→Prop
 |.arr k _ es=>k≠0∧(∀x∈es,aC x=k)∧(c.place id=none→es=[])∧∀b,c.place id=some b →
   ∃(cs:Array Value) (T:TypeId) (f:Nat→Nat→Value),w.heap[b]?=some (.cells cs T (0,0))∧es.length*k≤cs.size∧c.room id=cs.size ∧
    (∀i j,i<es.length→j<k→cs[i*k+j]?=some (f i j)∧(f i j).oneCell'=true) ∧
    ∀i (hi:i<es.length) j (hj:j<(cellsOf es[i]).length),R M w c (cellsOf es[i])[j] (f i j)
 |.map es=>∃(b clock:Nat) (en:Array MapEntry) (f g:Nat→Value),c.place id=some b∧w.heap[b]?=some (.map en clock)∧en.size=es.length ∧
   (∀i (h:i<es.length),∃e,en[i]?=some e∧e.key=f i∧e.val=g i∧gG (es[i]).1=true) ∧
   (∀i (h:i<es.length),R M w c (es[i]).1 (f i))∧(∀i (h:i<es.length),R M w c (es[i]).2 (g i))
 |.pend busy j=>∃b,c.place id=some b ∧
   w.heap[b]?=some (.loop (match busy,j with
    |true,_=>oM (c.loops id) .busy none
    |false,none=>oM (c.loops id) .ready none
    |false,some e=>oM (c.loops id) .done (qM e)))
 |.dead=>True
structure ei (c:cX) (σ:ay):Prop where
 H:c.H=hd σ
 N:c.N=σ.length
 sb:∀b,c.sld b→c.bor b
 low:∀b,c.bor b→b<w.heap.size
 plow:∀id b,c.H id≠.dead→c.place id=some b→b<w.heap.size∧¬c.bor b
 inj:∀i j b,c.H i≠.dead→c.H j≠.dead→c.place i=some b→c.place j=some b→i=j
 obj:∀id o,σ[id]?=some o→vy M w c id o
variable {M w}
theorem vy.ext{c c':cX}{w':World}{id:Nat}{o:Obj}(h:vy M w c id o)(he:Ext c w c' w')
  (hp:o≠.dead→c'.place id=c.place id∧c'.room id=c.room id∧c'.loops id=c.loops id) (hb:o≠.dead→∀b,c.place id=some b→w'.heap[b]?=w.heap[b]?):vy M w' c' id o:=by
 cases o with
 |dead=>trivial
 |arr k ep es=>
  obtain⟨h1,h2,h3,h4⟩:=h;obtain⟨p1,p2,_⟩:=hp (by simp);refine⟨h1,h2,fun hn=>h3 (p1▸hn),fun b hb'=>?_⟩;rw[p1]at hb';obtain⟨cs,T,f,q1,q2,q3,q4,q5⟩:=h4 b hb';exact⟨cs,T,f,by rw[hb (by simp) b hb'];exact q1,q2,p2▸q3,q4,fun i hi j hj=>(q5 i hi j hj).ext he⟩
 |map es=>
  obtain⟨b,cl,en,f,g,q1,q2,q3,q4,q5,q6⟩:=h;obtain⟨p1,p2,_⟩:=hp (by simp);exact⟨b,cl,en,f,g,p1▸q1,by rw[hb (by simp) b q1];exact q2,q3,q4,fun i hi=>(q5 i hi).ext he,fun i hi=>(q6 i hi).ext he⟩
 |pend bz j=>
  obtain⟨b,q1,q2⟩:=h;obtain⟨p1,_,p3⟩:=hp (by simp);exact⟨b,p1▸q1,by rw[hb (by simp) b q1,q2,p3]⟩
theorem eI{σ:ay}{id:Nat}{o:Obj}(h:σ[id]?=some o):hd σ id=match o with
  |.arr k ep _=>.arr k ep
  |.map _=>.map
  |.pend _ _=>.pend
  |.dead=>.dead:=by
 simp only[hd,h];cases o<;>rfl
theorem ZL{σ:ay}{id:Nat}(h:hd σ id≠.dead):∃o,σ[id]?=some o∧o≠.dead:=by
 cases hs:σ[id]? with
 |none=>exact absurd (by unfold hd;rw[hs]) h
 |some o=>
  refine⟨o,rfl,fun ho=>?_⟩;subst ho;exact h (by unfold hd;rw[hs])
theorem BW{σ:ay}{id:Nat}(h:hd σ id≠.dead):id<σ.length:=by
 obtain⟨o,ho,_⟩:=ZL h;exact (al.1 ho).1
theorem ou{σ:ay}{id:Nat}{o:Obj}(h:σ[id]?=some o):hd σ id=.dead↔o=.dead:=by
 rw[eI h];cases o<;>simp
theorem Ext.heap{c:cX}{w':World}(h:w'.heap=w.heap):Ext c w c w':=
 ⟨fun _ h=>h,fun _ h=>h,fun _ _=>by rw[h],aM _,fun _ _=>.inl rfl,fun _ _ _ _=>⟨rfl,rfl,rfl⟩⟩
theorem ei.heap{c:cX}{σ:ay}{w':World}(hs:ei M w c σ)(h:w'.heap=w.heap):ei M w' c σ:=
 ⟨hs.H,hs.N,hs.sb,by rw[h];exact hs.low,by rw[h];exact hs.plow,hs.inj,fun id o ho=>(hs.obj id o ho).ext (.heap h) (fun _=>⟨rfl,rfl,rfl⟩) fun _ b _=>by rw[h]⟩
theorem Ext.trans{c c' c'':cX}{w w' w'':World}(h:Ext c w c' w')(k:Ext c' w' c'' w''):Ext c w c'' w'' where
 sld:=fun b hb=>k.sld b (h.sld b hb)
 bor:=fun b hb=>k.bor b (h.bor b hb)
 rest:=fun b hb=>by rw[k.rest b (hb.imp (h.bor b) (h.sld b)),h.rest b hb]
 N:=aI h.N k.N
 head:=fun id hid=>by
  have h1:=h.head id hid;have h2:=k.head id (bd hid h.N);rcases h1 with h1|h1|⟨q,e,e',a1,a2,a3⟩
  ·rw[h1];exact h2
  ·rw[h1]at h2;exact .inr (.inl (Hd.le_dead h2))
  rcases h2 with h2|h2|⟨q',f,f',b1,b2,b3⟩
  ·exact .inr (.inr ⟨q,e,e',a1,h2▸a2,a3⟩)
  ·exact .inr (.inl h2)
  rw[a2]at b1;cases b1;exact .inr (.inr ⟨q,e,f',a1,b2,kC a3 b3⟩)
 place:=fun id hid hq hd=>by
  have h1:=h.head id hid;have h2:=k.head id (bd hid h.N);have hm:c.H id=c'.H id:=by
   rcases h1 with h1|h1|⟨q,e,e',a1,a2,a3⟩
   ·exact h1
   ·rw[h1]at h2;rw[Hd.le_dead h2]at hq;exact absurd hq hd
   rcases h2 with h2|h2|⟨q',f,f',b1,b2,b3⟩
   ·rw[←h2,a1,a2]at hq;cases hq;exact absurd a3 (dr _)
   ·rw[h2]at hq;exact absurd hq hd
   rw[a2]at b1;cases b1;rw[a1,b2]at hq;cases hq;exact absurd (kC a3 b3) (dr _)
  obtain⟨p1,p2,p3⟩:=h.place id hid hm hd;obtain⟨r1,r2,r3⟩:=k.place id (bd hid h.N) (hm▸hq) (hm▸hd);exact⟨r1.trans p1,r2.trans p2,r3.trans p3⟩
def kT(w:World)(o:Go.Obj):World:={ w with heap:=w.heap.push o }
def cX.grow(c:cX)(σ:ay)(p:Option Nat)(room:Nat)(lp:ki):cX:=
 { c with H:=hd σ,N:=σ.length,place:=fun i=>if i=c.N then p else c.place i,room:=fun i=>if i=c.N then room else c.room i,loops:=fun i=>if i=c.N then lp else c.loops i }
theorem rj{σ:ay}{o:Obj}{id:Nat}(h:id<σ.length):hd (σ++[o]) id=hd σ id:=by
 unfold hd;rw[bB h]
theorem mj{σ:ay}{o:Obj}:(σ++[o])[σ.length]?=some o:=by simp
theorem Ext.grow{c:cX}{σ:ay}{w':World}(hs:ei M w c σ)(o:Obj)(p:Option Nat)(room:Nat)(lp:ki)(hw:∀b,b<w.heap.size→w'.heap[b]?=w.heap[b]?) :
  Ext c w (c.grow (σ++[o]) p room lp) w' where
 sld:=fun _ h=>h
 bor:=fun _ h=>h
 rest:=fun b hb=>hw b (hs.low b (hb.elim id (hs.sb b)))
 N:=by simp[cX.grow,hs.N]
 head:=fun id hid=>by rw[hs.N]at hid;simp only[cX.grow,hs.H];rw[rj hid];exact .inl rfl
 place:=fun id hid _ _=>by
  have:id≠c.N:=Nat.ne_of_lt hid;simp[cX.grow,this]
theorem ei.grow{c:cX}{σ:ay}{w':World}(hs:ei M w c σ)(o:Obj)(p:Option Nat)(room:Nat)(lp:ki)
  (hw:∀b,b<w.heap.size→w'.heap[b]?=w.heap[b]?) (hz:w.heap.size≤w'.heap.size) (hp:∀b,p=some b→w.heap.size≤b∧b<w'.heap.size)
  (hobj:vy M w' (c.grow (σ++[o]) p room lp) σ.length o):ei M w' (c.grow (σ++[o]) p room lp) (σ++[o]) where
 H:=rfl
 N:=rfl
 sb:=hs.sb
 low:=fun b hb=>bd (hs.low b hb) hz
 plow:=fun id b hd hb=>by
  simp only[cX.grow]at hd hb ⊢;split at hb
  ·obtain⟨h1,h2⟩:=hp b hb;exact⟨h2,fun hc=>absurd (hs.low b hc) (by omega)⟩
  rename_i hne;have hlt:id<σ.length:=by
   have:=BW hd;rw[hs.N]at hne;simp at this;omega
  rw[rj hlt,←hs.H]at hd;obtain⟨h1,h2⟩:=hs.plow id b hd hb;exact⟨bd h1 hz,h2⟩
 inj:=fun i j b hi hj hbi hbj=>by
  simp only[cX.grow]at hi hj hbi hbj;have key:∀i,hd (σ++[o]) i≠.dead→i≠c.N→c.H i≠.dead:=fun i hi hne=>by
   have hlt:i<σ.length:=by
    have:=BW hi;rw[hs.N]at hne;simp at this;omega
   rwa [rj hlt,←hs.H]at hi
  split at hbi
  ·split at hbj
   ·omega
   rename_i h1 h2;have:=(hs.plow j b (key j hj h2) hbj).1;have:=(hp b hbi).1;omega
  rename_i h1;split at hbj
  ·have:=(hs.plow i b (key i hi h1) hbi).1;have:=(hp b hbj).1;omega
  rename_i h2;exact hs.inj i j b (key i hi h1) (key j hj h2) hbi hbj
 obj:=fun id o' ho=>by
  by_cases hlt:id<σ.length
  ·rw[bB hlt]at ho;have hne:id≠c.N:=by rw[hs.N];omega
   refine (hs.obj id o' ho).ext (Ext.grow hs o p room lp hw) (fun _=>by simp[cX.grow,hne]) fun hnd b hb=>hw b ?_;refine (hs.plow id b ?_ hb).1;rw[hs.H];exact fun h=>hnd ((ou ho).1 h)
  have:id=σ.length:=by
   have:=(al.1 ho).1;simp at this;omega
  subst this;rw[mj]at ho;cases ho;exact hobj
end Go.AM
namespace Go.AM
variable {M:cZ} {w:World} {P:Program}
theorem jO(b o j:Nat):(⟨b,o,none⟩:Addr).add j=⟨b,o+j,none⟩:=by
 unfold Addr.add;split
 ·rename_i h;subst h;rfl
 rfl
theorem Hn{x:Value}(h:x.oneCell'=true):x.cells=#[x]:=by
 cases x<;>first|rfl|(simp[Value.oneCell']at h)
theorem R.small{c:cX}{v:ap}{x:Value}(h:R M w c v x)(hx:x.oneCell'=true):aC v≤1∧isAgg v=false:=by
 cases h<;>first|exact⟨aM _,rfl⟩|exact⟨bP _,rfl⟩|(simp[Value.oneCell']at hx)
theorem R.oneOf{c:cX}{v:ap}{x:Value}(h:R M w c v x)(h1:aC v=1)(h2:isAgg v=false):x.oneCell'=true:=by
 cases h<;>first|rfl|assumption|(simp[isAgg]at h2;done)|(simp[aC]at h1;done)
theorem mU{v:ap}(h:aC v≠0):(cellsOf v).length=aC v:=by
 cases v<;>first|rfl|exact absurd rfl h
theorem oh{v:ap}(h:isAgg v=true):∃cs,v=.agg cs:=by
 cases v<;>first|exact⟨_,rfl⟩|(simp[isAgg]at h)
theorem pO{v:ap}(h:isAgg v=false):cellsOf v=[v]:=by
 cases v<;>first|rfl|(simp[isAgg]at h)
structure qJ (M:cZ) (w:World) (c:cX) (x:ap) (f:Nat→Value):Prop where
 one:∀j,j<aC x→(f j).oneCell'=true
 rel:∀j (h:j<(cellsOf x).length),R M w c (cellsOf x)[j] (f j)
theorem abk{c:cX}{cs:List ap}(f:Nat→Value)(h1:∀j,j<cs.length→(f j).oneCell'=true)(h2:∀j (h:j<cs.length),R M w c cs[j] (f j)) :
  R M w c (.agg cs) (.agg ((List.range cs.length).map f).toArray):=by
 refine .agg f (by simp) (fun i hi=>⟨by simp[hi],h1 i hi⟩) (fun i hi=>?_) h2;exact (h2 i hi).small (h1 i hi)
def rm(P:Program)(T:TypeId)(a:Bool)(s:Nat):Bool:=
 (P.info? T).map (·.size)==some s&&(match P.underlying T with
  |some (.struct _)|some (.array _ _)=>a
  |some _=>!a
  |none=>false)&&(a ||s==1)
theorem fQ{T:TypeId}{s:Nat}(h:(P.info? T).map (·.size)=some s)(w:World):(sizeOf T).run P w=.ok s w:=by
 unfold sizeOf typeInfo;cases hq:P.info? T with
 |none=>simp[hq]at h
 |some i=>simp[hq]at h ⊢;exact h
theorem pF{T:TypeId}{a:Bool}{s:Nat}(h:rm P T a s=true)(w:World):(Go.isAgg T).run P w=.ok a w:=by
 unfold rm at h;simp only[aq]at h;have h2:=h.1.2;unfold Go.isAgg Go.underlying;cases hq:P.underlying T with
 |none=>simp[hq]at h2
 |some d=>rw[hq]at h2;cases d<;>simp_all
theorem sQ{T:TypeId}{a:Bool}{s:Nat}(h:rm P T a s=true):(P.info? T).map (·.size)=some s:=by
 unfold rm at h;simp only[aq,aP]at h;exact h.1.1
theorem vD{T:TypeId}{s:Nat}(h:rm P T false s=true):s=1:=by
 unfold rm at h;simp only[aq,aP,jW]at h;exact h.2
theorem B8{T:TypeId}{a:Bool}{s:Nat}(h:rm P T a s=true)(b o:Nat)(f:Nat→Value)(hc:∀j,j<s→w.cell? ⟨b,o+j,none⟩=some (f j)) :
  (loadVar T ⟨b,o,none⟩).run P w=.ok (if a then .agg ((List.range s).map f).toArray else f 0) w:=by
 unfold loadVar;cases a with
 |true=>
  simp only[Sem.run_bind,pF h,Result.andThen_ok,cW,fQ (sQ h),Sem.run_pure];rw[run_loadCells w _ s f (fun j hj=>by rw[jO];exact hc j hj)];rfl
 |false=>
  obtain rfl:=vD h;simp only[Sem.run_bind,pF h,Result.andThen_ok,bC,cz,run_load];have:=hc 0 (by omega);simp only[eK]at this;rw[this]
theorem Bw{c:cX}{a:Bool}{s off:Nat}{x y:ap}{f:Nat→Value}(h:qJ M w c x f)(hx:aC x≠0)(hg:uj a s x off=some y)(hs:a=false→s=1) :
  off+s≤aC x∧R M w c y (if a then .agg ((List.range s).map fun j=>f (off+j)).toArray else f off):=by
 unfold uj at hg;split at hg
 ·rename_i hc;obtain⟨rfl,h2,h3⟩:=hc;cases hg;refine⟨by omega,?_⟩;cases a with
  |true=>
   obtain⟨cs,rfl⟩:=oh h3;simp only[bS,cW];have h2':cs.length=s:=h2;subst h2';exact abk f (fun j hj=>h.one j hj) (fun j hj=>h.rel j hj)
  |false=>
   have hcs:=pO h3;have:=h.rel 0 (by rw[hcs];simp);simp only[hcs,cO]at this;exact this
 split at hg
 ·rename_i ha;subst ha;split at hg
  ·rename_i hl;cases hg;refine⟨hl,?_⟩;have hlen:(cellsOf x).length=aC x:=mU hx;have hl2:(((cellsOf x).drop off).take s).length=s:=by simp;omega
   have:=abk (M:=M) (w:=w) (c:=c) (cs:=((cellsOf x).drop off).take s) (fun j=>f (off+j)) (fun j hj=>h.one _ (by omega)) (fun j hj=>by
    have:=h.rel (off+j) (by omega);simp only[dW,dU];exact this)
   rw[hl2]at this;exact this
  cases hg
 rename_i ha;have ha':a=false:=by cases a<;>simp_all
 subst ha';obtain rfl:=hs rfl;obtain⟨hlt,rfl⟩:=al.1 hg;refine⟨by rw[mU hx]at hlt;omega,?_⟩;exact h.rel off hlt
end Go.AM
namespace Go.AM
variable {M:cZ} {w:World} {P:Program}
structure Same (w w':World):Prop where
 tape:w'.tape=w.tape
 os:w'.os=w.os
 output:w'.output=w.output
 drawn:w.drawn≤w'.drawn
theorem Same.refl(w:World):Same w w:=⟨rfl,rfl,rfl,aM _⟩
theorem Same.trans{a b c:World}(h:Same a b)(k:Same b c):Same a c:=⟨k.tape.trans h.tape,k.os.trans h.os,k.output.trans h.output,aI h.drawn k.drawn⟩
structure s6 (w w':World) (b:Nat) (o:Go.Obj):Prop extends Same w w' where
 heap:w'.heap=w.heap.setIfInBounds b o
theorem s6.get{w w':World}{b:Nat}{o:Go.Obj}(h:s6 w w' b o)(i:Nat)(hb:b<w.heap.size):w'.heap[i]?=if i=b then some o else w.heap[i]?:=by
 rw[h.heap,dv];by_cases hi:i=b
 ·subst hi;simp[hb]
 rw[if_neg (fun e=>hi e.symm),if_neg hi]
theorem s6.size{w w':World}{b:Nat}{o:Go.Obj}(h:s6 w w' b o):w'.heap.size=w.heap.size:=by rw[h.heap];simp
theorem Lb{w:World}{b o:Nat}{cur:Array Value}{T:TypeId}{v:Value}(h:w.heap[b]?=some (.cells cur T (0,0))) :
  s6 w (w.setCell ⟨b,o,none⟩ v) b (.cells (cur.setIfInBounds o v) T (0,0)):=by
 refine⟨⟨rfl,rfl,rfl,aM _⟩,?_⟩;obtain⟨hlt,he⟩:=bH.1 h;simp only[World.setCell];apply ej;intro i;rw[gM,dv];split
 ·rename_i e;subst e;rw[h];rfl
 rfl
theorem lf(b o:Nat)(T:TypeId):∀(vs:List Value) (i:Nat) (cur:Array Value) (w:World),w.heap[b]?=some (.cells cur T (0,0))→o+i+vs.length≤cur.size→(∀v∈vs,v.oneCell'=true) →
  ∃(w':World) (cur':Array Value),(storeCells ⟨b,o,none⟩ vs i).run P w=.ok () w'∧s6 w w' b (.cells cur' T (0,0))∧cur'.size=cur.size ∧
   ∀j,cur'[j]?=if o+i≤j∧j<o+i+vs.length then vs[j-(o+i)]? else cur[j]?
 |[],i,cur,w,h,_,_=>by
  refine⟨w,cur,rfl,⟨.refl w,?_⟩,rfl,fun j=>?_⟩
  ·obtain⟨hlt,he⟩:=bH.1 h;apply ej;intro k;rw[dv];split
   ·rename_i e;subst e;rw[h]
   rfl
  rw[if_neg (by rintro⟨q1,q2⟩;simp at q2;omega)]
 |v::vs,i,cur,w,h,hl,h1=>by
  have hlt:o+i<cur.size:=by simp at hl;omega
  have hc:w.cell? ⟨b,o+i,none⟩=some cur[o+i]:=by
   simp[World.cell?,h,hlt]
  have hs:=Lb (o:=o+i) (v:=v) h;have hb:b<w.heap.size:=(bH.1 h).1;have h':(w.setCell ⟨b,o+i,none⟩ v).heap[b]?=some (.cells (cur.setIfInBounds (o+i) v) T (0,0)):=by
   rw[hs.get _ hb,if_pos rfl]
  obtain⟨w',cur',hr,hw,hz,hj⟩:=lf b o T vs (i+1) _ _ h' (by simp at hl ⊢;omega) (fun x hx=>h1 x (aO _ hx));refine⟨w',cur',?_,⟨hs.toSame.trans hw.toSame,?_⟩,by rw[hz];simp,fun j=>?_⟩
  ·simp only[storeCells,Sem.run_bind,jO];rw[run_store P w _ v .plain (h1 v (cr ..)),hc];have hf:w.frozen? ⟨b,o+i,none⟩=false:=by simp[World.frozen?,h]
   simp only[hf,bC,cz,Result.andThen_ok];exact hr
  ·rw[hw.heap,hs.heap];apply ej;intro k;simp only[dv,kX];split<;>rfl
  rw[hj j];by_cases hj1:o+(i+1)≤j∧j<o+(i+1)+vs.length
  ·rw[if_pos hj1,if_pos (by simp;omega)];rw[show j-(o+i)=(j-(o+(i+1)))+1 by omega];simp
  rw[if_neg hj1,dv];by_cases hj2:o+i=j
  ·subst hj2;rw[if_pos rfl,if_pos hlt,if_pos (by simp)];simp
  rw[if_neg hj2,if_neg (by simp;omega)]
theorem ei.setObj'{c:cX}{σ:ay}{w':World}(hs:ei M w c σ){id:Nat}{o0 o1:Obj}{b:Nat}{o:Go.Obj}(hid:σ[id]?=some o0)(h0:o0≠.dead)(hh:hd (σ.set id o1) id=hd σ id)
  (hb:c.place id=some b) (hw:s6 w w' b o) (hobj:vy M w' c id o1):ei M w' c (σ.set id o1)∧Ext c w c w':=by
 have hlt:id<σ.length:=(al.1 hid).1;have hH:hd (σ.set id o1)=hd σ:=by
  funext i;by_cases hi:id=i
  ·subst hi;exact hh
  unfold hd;rw[dG hi]
 have hlive:c.H id≠.dead:=by rw[hs.H];exact fun h=>h0 ((ou hid).1 h)
 obtain⟨hbs,hbn⟩:=hs.plow id b hlive hb;have hrest:∀x,x≠b→w'.heap[x]?=w.heap[x]?:=fun x hx=>by rw[hw.get _ hbs,if_neg hx]
 have hext:Ext c w c w':=⟨fun _ h=>h,fun _ h=>h,fun x hx=>hrest x (fun e=>by subst e;exact hbn (hx.elim (fun h=>h) (hs.sb _))),aM _,fun _ _=>.inl rfl,fun _ _ _ _=>⟨rfl,rfl,rfl⟩⟩;refine⟨⟨by rw[hH];exact hs.H,by rw[hs.N];simp,hs.sb,by rw[hw.size];exact hs.low,by rw[hw.size];exact hs.plow,hs.inj,fun i o' ho=>?_⟩,hext⟩;by_cases hi:id=i
 ·subst hi;rw[eE hlt]at ho;cases ho;exact hobj
 rw[dG hi]at ho;refine (hs.obj i o' ho).ext hext (fun _=>⟨rfl,rfl,rfl⟩) fun hnd b' hb'=>hrest b' (fun e=>?_);subst e;exact hi (hs.inj id i b' hlive (by rw[hs.H];exact fun h=>hnd ((ou ho).1 h)) hb hb')
theorem ei.setObj{c:cX}{σ:ay}{w':World}(hs:ei M w c σ){id k ep:Nat}{es es':List ap}{b:Nat}{o:Go.Obj}(hid:σ[id]?=some (.arr k ep es))
  (hb:c.place id=some b) (hw:s6 w w' b o) (hobj:vy M w' c id (.arr k ep es')):ei M w' c (σ.set id (.arr k ep es'))∧Ext c w c w':=
 hs.setObj' hid (by simp) (by rw[eI (eE (al.1 hid).1),eI hid]) hb hw hobj
end Go.AM
namespace Go.AM
variable {M:cZ} {w:World} {P:Program}
structure iD (c:cX) (w:World) (c':cX) (w':World):Prop extends Ext c w c' w' where
 same:Same w w'
 size:w.heap.size≤w'.heap.size
 frame:∀b,b<w.heap.size→(∀id,c.H id≠.dead→c.place id≠some b)→w'.heap[b]?=w.heap[b]?
 liv:∀id b,c'.H id≠.dead→c'.place id=some b→b<w.heap.size→∃i,c.H i≠.dead∧c.place i=some b
 old:∀b,c'.sld b→b<w.heap.size→c.sld b∨∃i,c.H i≠.dead∧c.place i=some b
 oldb:∀b,c'.bor b→b<w.heap.size→c.bor b∨∃i,c.H i≠.dead∧c.place i=some b
theorem iD.refl(c:cX)(w:World):iD c w c w:=
 { Ext.refl c w with same:=.refl w,size:=aM _,frame:=fun _ _ _=>rfl,liv:=fun id _ h1 h2 _=>⟨id,h1,h2⟩,old:=fun _ h _=>.inl h,oldb:=fun _ h _=>.inl h }
theorem iD.trans{c c' c'':cX}{w w' w'':World}(h:iD c w c' w')(k:iD c' w' c'' w''):iD c w c'' w'':=
 { Ext.trans h.toExt k.toExt with
  same:=h.same.trans k.same
  size:=aI h.size k.size
  frame:=fun b hb hn=>by
   rw[k.frame b (bd hb h.size) (fun id h1 h2=>?_),h.frame b hb hn];obtain⟨i,a1,a2⟩:=h.liv id b h1 h2 hb;exact hn i a1 a2
  old:=fun b h1 hb=>by
   rcases k.old b h1 (bd hb h.size) with h2|⟨i,a1,a2⟩
   ·exact h.old b h2 hb
   exact .inr (h.liv i b a1 a2 hb)
  oldb:=fun b h1 hb=>by
   rcases k.oldb b h1 (bd hb h.size) with h2|⟨i,a1,a2⟩
   ·exact h.oldb b h2 hb
   exact .inr (h.liv i b a1 a2 hb)
  liv:=fun id b h1 h2 hb=>by
   obtain⟨i,a1,a2⟩:=k.liv id b h1 h2 (bd hb h.size);exact h.liv i b a1 a2 hb }
def oA(M:cZ)(P:Program)(c:cX)(w:World)(s:Sem Next)(v:ap)(σ':ay):Prop:=
 ∃nx w' c' cv,s.run P w=.ok nx w'∧(nx=.value cv∨(nx=.skip∧cv=undef))∧ei M w' c' σ'∧iD c w c' w'∧R M w' c' v cv
theorem oA.quiet{c:cX}{σ:ay}{s:Sem Value}{v:ap}{cv:Value}(hs:ei M w c σ)(h:s.run P w=.ok cv w)(hr:R M w c v cv) :
  oA M P c w (do pure (.value (←s))) v σ:=
 ⟨_,w,c,cv,by simp[h],.inl rfl,hs,.refl c w,hr⟩
theorem oA.of{c c':cX}{w':World}{σ':ay}{s:Sem Value}{v:ap}{cv:Value}(h:s.run P w=.ok cv w')(hs:ei M w' c' σ')(ht:iD c w c' w')(hr:R M w' c' v cv) :
  oA M P c w (do pure (.value (←s))) v σ':=
 ⟨_,w',c',cv,by simp[h],.inl rfl,hs,ht,hr⟩
theorem oA.now{c:cX}{σ:ay}{v:ap}{cv:Value}(hs:ei M w c σ)(hr:R M w c v cv):oA M P c w (pure (.value cv)) v σ:=
 ⟨_,w,c,cv,rfl,.inl rfl,hs,.refl c w,hr⟩
theorem Ext.ofStill{c:cX}(hsb:∀b,c.sld b→c.bor b)(b:Bool):Ext (c.still b) w c w where
 sld:=fun _ h=>h
 bor:=fun x h=>by
  cases b
  ·exact hsb x h
  exact h
 rest:=fun _ _=>rfl
 N:=bP _
 head:=fun id hid=>absurd hid (bX _)
 place:=fun id hid=>absurd hid (bX _)
theorem yo{σ:ay}{id ep i:Nat}{x:ap}(h:p7 σ id ep i=some x):∃k es,σ[id]?=some (.arr k ep es)∧es[i]?=some x:=by
 unfold p7 at h;split at h
 ·rename_i k e es he;split at h
  ·rename_i hc;subst hc;exact⟨_,_,he,h⟩
  cases h
 cases h
theorem mN{σ:ay}{id ep off len:Nat}{xs:List ap}(h:sliceAt σ id ep off len=some xs) :
  ∃k es,σ[id]?=some (.arr k ep es)∧off+len≤es.length∧xs=(es.drop off).take len:=by
 unfold sliceAt at h;split at h
 ·rename_i k e es he;split at h
  ·rename_i hc;obtain⟨rfl,hl⟩:=hc;cases h;exact⟨_,_,he,hl,rfl⟩
  cases h
 cases h
theorem ei.elem{c:cX}{σ:ay}(hs:ei M w c σ){id k ep i:Nat}{es:List ap}{x:ap}(ho:σ[id]?=some (.arr k ep es))(hx:es[i]?=some x) :
  ∃b f,c.place id=some b∧qJ M w c x f∧aC x=k∧k≠0∧∀j,j<k→w.cell? ⟨b,i*k+j,none⟩=some (f j):=by
 obtain⟨h1,h2,h3,h4⟩:=hs.obj id _ ho;obtain⟨hi,rfl⟩:=al.1 hx;cases hp:c.place id with
 |none=>rw[h3 hp]at hi;exact absurd hi (by simp)
 |some b=>
  obtain⟨cs,T,f,q1,q2,q3,q4,q5⟩:=h4 b hp;have hk:aC es[i]=k:=h2 _ (aF hi);refine⟨b,f i,rfl,⟨fun j hj=>(q4 i j hi (hk▸hj)).2,fun j hj=>q5 i hi j hj⟩,hk,h1,fun j hj=>?_⟩;simp only[World.cell?,q1];exact (q4 i j hi hj).1
theorem QW{c:cX}{σ:ay}(hs:ei M w c σ){id ep i off:Nat}{p:Value}(hp:R M w c (.ptr id ep i off) p){k:Nat}{es:List ap}(ho:σ[id]?=some (.arr k ep es)) :
  ∃b,c.place id=some b∧p=.pointer (some ⟨b,i*k+off,none⟩):=by
 have hH:c.H id=.arr k ep:=by rw[hs.H,eI ho]
 cases hp with
 |ptr h1 h2 h3=>rw[hH]at h2;cases h2;exact⟨_,h3,rfl⟩
 |ptrOld h0 h1 h2=>exact absurd (h2 _ _ hH) (dr _)
theorem XN{c:cX}{σ:ay}(hs:ei M w c σ){p:ap}{cp:Value}(hp:R M w c p cp){T:TypeId}{a:Bool}{s:Nat}(ht:rm P T a s=true){v:ap}
  (hl:loadAt a s p σ=some v):∃cv,(Instr.loadAt T cp).run P w=.ok cv w∧R M w c v cv:=by
 unfold loadAt at hl;split at hl
 ·rename_i b x off;cases hp with
  |@cptr _ _ _ _ o blk f h1 h2 h3 h4=>
   have hcr:qJ M w c x f:=⟨fun j hj=>(h3 j hj).2,fun j hj=>by
    cases b with
    |true=>exact h4 j hj
    |false=>exact (h4 j hj).ext (Ext.ofStill hs.sb false)⟩
   obtain⟨hle,hr⟩:=Bw hcr h2 hl (fun ha=>by subst ha;exact vD ht);refine⟨_,?_,hr⟩;unfold Instr.loadAt Instr.sureAddr;simp only[Sem.run_bind,Sem.run_pure,Result.andThen_ok];rw[B8 ht blk (o+off) (fun j=>f (off+j)) (fun j hj=>by rw[ct];exact (h3 (off+j) (by omega)).1)];cases a<;>rfl
 ·rename_i id ep i off;simp only[aN]at hl;obtain⟨x,hx,hg⟩:=hl;obtain⟨k,es,ho,hei⟩:=yo hx;obtain⟨b,f,hb,hcr,hk,hk0,hcell⟩:=hs.elem ho hei;obtain⟨b',hb',rfl⟩:=QW hs hp ho;rw[hb]at hb';cases hb';obtain⟨hle,hr⟩:=Bw hcr (by omega) hg (fun ha=>by subst ha;exact vD ht);refine⟨_,?_,hr⟩;unfold Instr.loadAt Instr.sureAddr;simp only[Sem.run_bind,Sem.run_pure,Result.andThen_ok];rw[B8 ht b (i*k+off) (fun j=>f (off+j)) (fun j hj=>by rw[ct];exact hcell (off+j) (by omega))];cases a<;>rfl
 cases hl
theorem pk{c:cX}{v:ap}{cv:Value}(h:R M w c v cv)(hn:aC v≠0):∃f:Nat→Value,qJ M w c v f∧cv.cells.size=aC v∧∀j,j<aC v→cv.cells[j]?=some (f j):=by
 cases hv:Go.AM.isAgg v with
 |true=>
  obtain⟨cs,rfl⟩:=oh hv;cases h with
  |agg f h1 h2 h3 h4=>exact⟨f,⟨fun j hj=>(h2 j hj).2,h4⟩,h1,fun j hj=>(h2 j hj).1⟩
 |false=>
  have h1:aC v=1:=by
   cases v<;>first|rfl|exact absurd rfl hn|(simp[Go.AM.isAgg]at hv)
  have ho:=h.oneOf h1 hv;refine⟨fun _=>cv,⟨fun _ _=>ho,fun j hj=>?_⟩,by rw[Hn ho,h1];rfl,fun j hj=>?_⟩
  ·simp only[pO hv]at hj ⊢;have:j=0:=by simp at hj;omega
   subst this;exact h
  rw[h1]at hj;have:j=0:=by omega
  subst this;rw[Hn ho];rfl
theorem SM{c:cX}{s off:Nat}{x v x':ap}{f g:Nat→Value}(hx:qJ M w c x f)(hx0:aC x≠0)(hv:qJ M w c v g)(hs:s≠0)(h:yT s x off v=some x') :
  aC v=s∧off+s≤aC x∧aC x'=aC x∧qJ M w c x' (fun j=>if off≤j∧j<off+s then g (j-off) else f j):=by
 unfold yT at h;split at h
 ·rename_i hvs;split at h
  ·rename_i hc;obtain⟨rfl,h2,h3⟩:=hc;cases h;refine⟨hvs,by omega,by omega,⟨fun j hj=>?_,fun j hj=>?_⟩⟩
   ·rw[if_pos ⟨bP _,by omega⟩];exact hv.one _ hj
   have:=mU (v:=v) (by omega);rw[if_pos ⟨bP _,by omega⟩];exact hv.rel _ hj
  split at h
  ·rename_i hc;obtain⟨h2,h3⟩:=hc;cases h;have lx:=mU hx0;have lv:=mU (v:=v) (by omega);have hlen:((cellsOf x).take off++cellsOf v++(cellsOf x).drop (off+s)).length=aC x:=by simp;omega
   refine⟨hvs,h2,hlen,⟨fun j hj=>?_,fun j hj=>?_⟩⟩
   ·rw[show aC (.agg ((cellsOf x).take off++cellsOf v++(cellsOf x).drop (off+s)))=aC x from hlen]at hj;split
    ·exact hv.one _ (by omega)
    exact hx.one _ hj
   change j<((cellsOf x).take off++cellsOf v++(cellsOf x).drop (off+s)).length at hj;change R M w c ((cellsOf x).take off++cellsOf v++(cellsOf x).drop (off+s))[j] _;rw[hlen]at hj;by_cases hj1:j<off
   ·rw[if_neg (by omega)];have:=hx.rel j (by omega);rw[bU (by simp;omega),bU (by simp;omega)];simpa using this
   by_cases hj2:j<off+s
   ·rw[if_pos ⟨by omega,hj2⟩];have:=hv.rel (j-off) (by omega);rw[bU (by simp;omega),cH (by simp;omega)];simp only[bO];have e:j-min off (cellsOf x).length=j-off:=by rw[dx (by omega)]
    simpa [e] using this
   rw[if_neg (by omega)];have:=hx.rel j (by omega);rw[cH (by simp;omega)];simp only[dU,bV,bO];have e:off+s+(j-(min off (cellsOf x).length+(cellsOf v).length))=j:=by rw[dx (by omega)];omega
   simpa [e] using this
  cases h
 cases h
theorem qJ.ext{c c':cX}{w':World}{x:ap}{f:Nat→Value}(h:qJ M w c x f)(he:Ext c w c' w'):qJ M w' c' x f:=
 ⟨h.one,fun j hj=>(h.rel j hj).ext he⟩
theorem iD.setB{c:cX}{σ:ay}{w':World}(hs:ei M w c σ){id b:Nat}{o:Go.Obj}(hl:c.H id≠.dead)(hb:c.place id=some b)(hw:s6 w w' b o)(he:Ext c w c w'):iD c w c w':=
 { he with
  same:=hw.toSame
  size:=by rw[hw.size];exact aM _
  frame:=fun x hx hn=>by rw[hw.get _ (hs.plow id b hl hb).1,if_neg (fun e=>hn id hl (by subst e;exact hb))]
  liv:=fun i x h1 h2 _=>⟨i,h1,h2⟩
  old:=fun _ h _=>.inl h
  oldb:=fun _ h _=>.inl h }
theorem Y0{c:cX}{σ σ':ay}(hs:ei M w c σ){p v:ap}{cp cv:Value}(hp:R M w c p cp)(hv:R M w c v cv){T:TypeId}{s:Nat}(ht:(P.info? T).map (·.size)=some s)(hs0:s≠0)
  (hst:storeAt s p v σ=some σ'):∃w',(Instr.storeAt T cp cv).run P w=.ok () w'∧ei M w' c σ'∧iD c w c w':=by
 unfold storeAt at hst;split at hst
 ·rename_i id ep i off;split at hst
  ·rename_i k e es ho;split at hst
   ·rename_i he;subst he;simp only[aN,aY]at hst;obtain⟨x,hx,x',hx',rfl⟩:=hst;obtain⟨b,f,hb,hcr,hk,hk0,hcell⟩:=hs.elem ho hx;obtain⟨b',hb',rfl⟩:=QW hs hp ho;rw[hb]at hb';cases hb';have hlive:c.H id≠.dead:=by rw[hs.H,eI ho];simp
    have hnv:aC v=s:=by unfold yT at hx';split at hx'<;>first|assumption|cases hx'
    obtain⟨g,hg,hgs,hgc⟩:=pk hv (by omega);obtain⟨_,hle,hnx,hcr'⟩:=SM hcr (by omega) hg hs0 hx';obtain⟨o1,o2,o3,o4⟩:=hs.obj id _ ho;obtain⟨cs,T',F,q1,q2,q3,q4,q5⟩:=o4 b hb;obtain⟨hi,hxe⟩:=al.1 hx;have hfit:i*k+off+s≤cs.size:=by
     have:(i+1)*k≤es.length*k:=cd k hi;rw[du]at this;omega
    obtain⟨w',cs',hr,hw,hz,hj⟩:=lf (P:=P) b (i*k+off) T' cv.cells.toList 0 cs w q1 (by simp[hgs];omega) (fun y hy=>by
     obtain⟨j,hj,rfl⟩:=dm.1 hy;have hj':j<aC v:=by simp at hj;omega
     have:=hgc j hj';rw[de (by simpa using hj)]at this;have h2:=hg.one j hj';simp only[gY];rw[cB this];exact h2)
    have hcs':∀j,cs'[j]?=if i*k+off≤j∧j<i*k+off+s then some (g (j-(i*k+off))) else cs[j]?:=fun j=>by
     rw[hj j];simp only[eK,cS,hgs,hnv];split
     ·rename_i hc;have:=hgc (j-(i*k+off)) (by omega);simpa using this
     rfl
    have hbn:=hs.plow id b hlive hb;have hext:Ext c w c w':=⟨fun _ h=>h,fun _ h=>h,fun y hy=>by rw[hw.get _ hbn.1,if_neg (fun e=>by subst e;exact hbn.2 (hy.elim (fun h=>h) (hs.sb _)))],aM _,fun _ _=>.inl rfl,fun _ _ _ _=>⟨rfl,rfl,rfl⟩⟩;have hobj:vy M w' c id (.arr k e (es.set i x')):=by
     refine⟨o1,fun y hy=>?_,fun hn=>(by rw[hb]at hn;cases hn),fun b' hb'=>?_⟩
     ·rcases fM hy with h|h
      ·exact o2 y h
      rw[h];omega
     rw[hb]at hb';cases hb';refine⟨cs',T',fun i' j=>if i'=i then (if off≤j∧j<off+s then g (j-off) else F i j) else F i' j,by rw[hw.get _ hbn.1,if_pos rfl],by simp;omega,by rw[hz];exact q3,fun i' j hi' hj'=>?_,fun i' hi' j hj'=>?_⟩
     ·simp only[gB]at hi';dsimp only;by_cases hii:i'=i
      ·subst hii;rw[if_pos rfl,hcs'];by_cases hr1:off≤j∧j<off+s
       ·rw[if_pos ⟨by omega,by omega⟩,if_pos hr1];have e1:i' * k+j-(i' * k+off)=j-off:=by omega
        rw[e1];exact⟨rfl,hg.one _ (by omega)⟩
       rw[if_neg (by omega),if_neg hr1];exact q4 i' j hi' hj'
      rw[if_neg hii,hcs',if_neg]
      ·exact q4 i' j hi' hj'
      rintro⟨a1,a2⟩;rcases Nat.lt_or_gt_of_ne hii with h|h
      ·have:(i'+1)*k≤i*k:=cd k h;rw[du]at this;omega
      have:(i+1)*k≤i' * k:=cd k h;rw[du]at this;omega
     by_cases hii:i'=i
     ·subst hii;simp only[fJ]at hj' ⊢;rw[if_pos trivial];have hF:∀j,j<k→f j=F i' j:=fun j hj=>by
       have h1:=hcell j hj;simp only[World.cell?,q1]at h1;have h2:=(q4 i' j hi hj).1;simp at h1;rw[h2]at h1;exact (cB h1).symm
      have:=(hcr'.rel j hj').ext hext;have hjk:j<k:=by rw[mU (by omega)]at hj';omega
      rw[←hF j hjk];exact this
     dsimp only;rw[if_neg hii];have hi2:i' < es.length:=by simpa using hi'
     have e1:(es.set i x')[i']=es[i']:=by rw[gg (fun h=>hii h.symm)]
     simp only[e1]at hj' ⊢;exact (q5 i' hi2 j hj').ext hext
    obtain⟨hsim,_⟩:=hs.setObj ho hb hw hobj;refine⟨w',?_,hsim,iD.setB hs hlive hb hw hext⟩;unfold Instr.storeAt Instr.sureAddr storeVar;simp only[Sem.run_bind,Sem.run_pure,Result.andThen_ok,fQ ht,Sem.run_ite,hgs,hnv,ne_eq,ke,cz];exact hr
   cases hst
  cases hst
 cases hst
end Go.AM
