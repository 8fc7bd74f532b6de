/- Part of the proof. -/
import Init
import Derived.Shelf.SlLaysF0
import Derived.Shelf.SlSortCmp.Whole1
import Derived.Shelf.SlSortCmp.NoneTotal
import Derived.Shelf.Slices.In.SortNone
import Derived.Shelf.SlGeneric
import Derived.Ground.SlsfProg
import Derived.Ground.NamesProg
import Derived.Test.YtegkopkbogoajaaGreatDoorProg
import GoSem.Core.Sem
import GoSem.Op.String
import Derived.CallsIn
import Derived.Laws.Sem
import Derived.Laws.Cells
import Derived.Laws.Rows
import Derived.Laws.Tables
import Derived.Laws.Strings
import Derived.Laws.Slices
import Derived.Laws.Append
set_option linter.unusedVariables false
set_option linter.unusedSimpArgs false
namespace Go.AM
abbrev ad3:=@List.getElem?_eq_getElem
abbrev al4:=@List.length_take
abbrev ajk:=@List.length_map
abbrev afJ:=@List.mem_map
abbrev arh:=@Bool.eq_iff_iff
abbrev arL:=@List.any_eq_true
abbrev acz:=@Bool.and_eq_true
abbrev afE:=@beq_iff_eq
abbrev ad7:=@decide_eq_true_eq
abbrev ah5:=@List.nil_append
abbrev auR:=@List.any_nil
abbrev ai1:=@Bool.false_eq_true
abbrev ajo:=@List.map_nil
abbrev af6:=@List.map_cons
abbrev aub:=@List.any_cons
abbrev avM:=@Bool.or_false
abbrev al7:=@Option.bind_some
abbrev afz:=@List.all_eq_true
abbrev an7:=@List.cons_append
abbrev ar6:=@decide_eq_true
abbrev alg:=@decide_eq_false
abbrev as9:=@Bool.not_eq_true'
abbrev atb:=@decide_eq_false_iff_not
abbrev avb:=@Bool.and_eq_false_iff
abbrev avF:=@Bool.false_and
abbrev al5:=@Bool.true_and
abbrev arX:=@Bool.or_eq_true
abbrev av1:=@not_true
abbrev ali:=@if_false
abbrev au0:=@UInt8.toNat_inj
abbrev au5:=@BitVec.ofInt_toInt
abbrev avp:=@BitVec.msb_eq_toInt
abbrev avA:=@BitVec.msb_xor
abbrev avo:=@Int.fdiv_eq_ediv_of_nonneg
abbrev avG:=@Int.mul_nonneg
abbrev avZ:=@Int.mul_le_mul
abbrev av0:=@Int.mul_assoc
abbrev auq:=@Bool.and_true
abbrev avn:=@Int.tdiv_eq_ediv_of_nonneg
abbrev avu:=@Int.ediv_nonneg
abbrev avl:=@Int.ediv_le_self
abbrev asf:=@Bool.true_eq_false
abbrev aqS:=@List.map_map
abbrev aj6:=@List.map_congr_left
abbrev art:=@Nat.not_lt_zero
abbrev auc:=@List.map_take
abbrev avj:=@List.ext_getElem
abbrev atf:=@List.getElem_map
abbrev ad4:=@List.getD_eq_getElem?_getD
abbrev atv:=@beq_eq_false_iff_ne
abbrev auL:=@List.length_range
abbrev atp:=@List.findIdx_lt_length_of_exists
abbrev at3:=@List.findIdx_getElem
abbrev aml:=@if_true
abbrev arm:=@List.mem_cons
abbrev arq:=@List.mem_singleton
abbrev als:=@Nat.le_trans
abbrev aea:=@List.take_of_length_le
abbrev atX:=@List.mem_filter
abbrev atc:=@List.exists_mem_of_ne_nil
abbrev auS:=@List.mem_flatMap
abbrev atE:=@List.flatMap_cons
abbrev auC:=@List.filter_append
abbrev aer:=@List.mem_cons_of_mem
abbrev aui:=@List.filter_cons
abbrev avr:=@List.filter_eq_self
abbrev aug:=@List.filter_eq_nil_iff
abbrev at0:=@Int.zero_mul
abbrev at1:=@Int.mul_zero
abbrev atS:=@Int.add_zero
abbrev au4:=@List.cons.injEq
abbrev aeb:=@List.mem_of_getElem?
abbrev aes:=@Nat.le_refl
abbrev arw:=@List.getElem?_append_left
abbrev aiG:=@List.length_cons
abbrev ak3:=@List.length_nil
abbrev arJ:=@Nat.add_assoc
abbrev auf:=@Nat.add_comm
abbrev am3:=@List.take_succ_eq_append_getElem
abbrev atd:=@List.take_length
abbrev aaN:=@List.getElem?_eq_some_iff
abbrev atw:=@Nat.min_eq_left
abbrev apx:=@Nat.zero_add
abbrev atj:=@List.length_drop
abbrev av2:=@List.map_drop
abbrev asW:=@List.mem_of_mem_drop
abbrev aoS:=@List.mem_append
abbrev akt:=@List.mem_of_mem_take
abbrev aju:=@Nat.lt_of_lt_of_le
abbrev avw:=@Nat.lt_trans
abbrev aog:=@List.length_append
abbrev arz:=@List.map_append
abbrev auM:=@List.Perm.refl
abbrev asS:=@List.pairwise_cons
abbrev aoQ:=@List.mem_cons_self
abbrev avB:=@List.tail_drop
abbrev amn:=@Nat.zero_le
abbrev au1:=@List.getElem?_cons_zero
abbrev afV:=@Option.some.injEq
abbrev auw:=@Bool.not_eq_true
abbrev auH:=@List.contains_iff_mem
abbrev aut:=@List.mem_range
abbrev avL:=@Bool.not_true
abbrev avm:=@Bool.false_or
abbrev atQ:=@Nat.testBit_two_pow_sub_one
abbrev aud:=@List.getElem?_eq_none
abbrev avg:=@List.mem_iff_getElem?
abbrev auQ:=@List.pairwise_iff_getElem
abbrev aue:=@Nat.lt_trichotomy
abbrev auO:=@Option.isNone_iff_eq_none
abbrev ahw:=@List.foldl_cons
abbrev atN:=@Bool.eq_false_iff
abbrev arG:=@List.any_eq_false
abbrev atP:=@Prod.mk.injEq
abbrev ate:=@List.getElem?_map
abbrev arD:=@List.getElem?_append_right
abbrev avT:=@Nat.sub_self
abbrev aus:=@Int.toNat_zero
abbrev auy:=@Nat.sub_zero
abbrev atZ:=@List.drop_length
abbrev au7:=@List.drop_of_length_le
abbrev ar0:=@List.eq_nil_or_concat
abbrev atD:=@List.drop_left
abbrev atF:=@List.take_left
abbrev atL:=@Int.toNat_natCast
abbrev ary:=@Option.getD_some
abbrev ata:=@List.getElem_cons_zero
abbrev atG:=@List.drop_eq_getElem_cons
abbrev ati:=@List.mem_iff_getElem
abbrev ala:=@Array.getD_eq_getD_getElem?
abbrev avh:=@List.zipIdx_cons
abbrev avD:=@Array.size_setIfInBounds
abbrev atr:=@Array.getElem?_setIfInBounds
abbrev amd:=@List.getElem_append_left
abbrev arK:=@List.getElem_append_right
abbrev atM:=@List.getElem_drop
abbrev atx:=@Nat.add_mul
abbrev arf:=@Nat.mul_le_mul_right
abbrev avR:=@List.range'_succ
abbrev auB:=@List.zip_cons_cons
abbrev atm:=@List.findIdx?_eq_some_iff_getElem
abbrev auj:=@List.getElem?_take
abbrev auk:=@Bool.not_eq_false'
abbrev atJ:=@Option.isSome_iff_exists
abbrev auP:=@List.ne_nil_of_length_pos
abbrev av4:=@List.map_id
abbrev avt:=@List.mem_map_of_mem
abbrev ahc:=@List.eq_nil_of_length_eq_zero
abbrev atH:=@Option.map_some
abbrev ave:=@List.eq_replicate_iff
abbrev agL:=@List.getElem_mem
abbrev ak4:=@Array.getElem?_eq_some_iff
abbrev ato:=@Nat.lt_irrefl
abbrev atB:=@Nat.le_succ
abbrev avc:=@List.dropWhile_suffix
abbrev auu:=@List.drop_zero
abbrev atU:=@bne_iff_ne
abbrev aun:=@List.takeWhile_prefix
abbrev auI:=@List.set_append_right
abbrev aty:=@List.all_cons
abbrev atn:=@Bool.and_assoc
abbrev avQ:=@decide_eq_decide
abbrev at2:=@List.not_any_eq_all_not
abbrev avy:=@Decidable.byContradiction
abbrev avO:=@Int.ediv_eq_zero_of_lt
abbrev avN:=@List.length_eq_one_iff
abbrev avY:=@List.range_eq_range'
abbrev avX:=@Nat.mul_eq_zero
abbrev aux:=@Nat.mul_comm
abbrev avq:=@Nat.mul_add_mod
abbrev avk:=@Nat.mod_eq_of_lt
abbrev au8:=@List.getElem_replicate
abbrev auA:=@List.getElem_cons_succ
abbrev auZ:=@List.getElem?_cons_succ
abbrev aiu:=@Option.map_eq_some_iff
abbrev agx:=@Option.bind_eq_some_iff
abbrev at7:=@List.getElem?_set_self
abbrev aup:=@List.ext_getElem?
abbrev aum:=@Array.getElem?_toList
abbrev auG:=@Array.getElem?_modify
abbrev atk:=@List.getElem?_set
abbrev auE:=@List.append_nil
abbrev avE:=@List.drop_drop
abbrev auo:=@List.takeWhile_append_dropWhile
abbrev auh:=@List.not_of_lt_findIdx
abbrev avv:=@Nat.zero_mul
abbrev ath:=@Array.length_toList
abbrev atg:=@List.reverse_append
abbrev att:=@Classical.byContradiction
abbrev at6:=@List.append_assoc
abbrev atY:=@Array.ext_getElem?
abbrev atz:=@List.getElem?_set_ne
abbrev avS:=@List.take_append_drop
abbrev at9:=@Nat.add_zero
abbrev auV:=@List.replicate_succ
abbrev atV:=@List.getElem?_zip_eq_some
abbrev avK:=@Bool.not_eq_false
abbrev auT:=@Option.bind_none
abbrev auY:=@Option.map_none
abbrev atT:=@beq_self_eq_true
abbrev avi:=@Option.getD_none
abbrev avU:=@List.all_nil
abbrev auK:=@Function.comp_def
abbrev auW:=@List.dropWhile_cons
abbrev auU:=@List.length_pos_iff
abbrev at8:=@List.dropWhile_sublist
abbrev atW:=@List.takeWhile_cons
abbrev avJ:=@List.pairwise_map
abbrev au9:=@List.foldl_append
abbrev avH:=@of_decide_eq_true
abbrev as7:=@Option.some.inj
abbrev auz:=@List.mem_zipIdx_iff_getElem?
abbrev at5:=@List.filter_cons_of_neg
abbrev at4:=@List.filter_cons_of_pos
abbrev avx:=@List.getLast?_eq_getElem?
abbrev auJ:=@List.getElem_set_self
abbrev avz:=@List.getElem?_drop
abbrev au3:=@List.take_left'
abbrev avV:=@Nat.le_max_left
abbrev avP:=@Nat.le_max_right
abbrev avI:=@not_false_eq_true
abbrev au6:=@Array.getElem?_extract
abbrev au2:=@Nat.mul_one
abbrev atl:=@Array.getElem?_eq_getElem
abbrev auN:=@Array.getElem_toList
abbrev aua:=@List.mem_or_eq_of_mem_set
abbrev auF:=@List.length_set
abbrev auv:=@List.getElem_set_ne
abbrev atu:=@Array.getElem?_append_left
abbrev auD:=@Array.getElem?_append_right
abbrev avf:=@Nat.div_lt_iff_lt_mul
abbrev aul:=@Nat.pos_of_ne_zero
abbrev avW:=@Nat.div_add_mod
abbrev atK:=@List.getElem_take
abbrev ava:=@List.concat_eq_append
abbrev aur:=@Array.eq_empty_of_size_eq_zero
abbrev atA:=@Array.getElem?_eq_none
abbrev avC:=@List.Perm.eq_of_pairwise
abbrev avd:=@Classical.choose_spec
abbrev auX:=@Array.all_eq_true_iff_forall_mem
abbrev atI:=@List.dropLast_concat_getLast
end Go.AM
namespace Go.Proofs
open Go.Shelf
def Tryz.sortF_ren:Go.Shelf.Ren:=⟨fun|6=>233|15=>243|14=>291|28=>302|29=>303|20=>318|21=>319|22=>320|23=>321|24=>322|25=>323|26=>324|27=>325|46=>333|47=>327|48=>328|49=>334|50=>335|57=>338|n=>n,fun|22=>31|24=>62|25=>85|3=>3|39=>199|0=>0|53=>270|55=>54|4=>4|46=>263|45=>262|50=>250|5=>5|9=>9|66=>285|70=>289|76=>293|77=>294|n=>n,fun|n=>n⟩
theorem Tryz.sortF:Go.Proofs.SlLaysF.n6 Tryz.prog Tryz.sortF_ren:={
 mixed:=by kernel_rfl
 f6:=⟨Tryz.f233.name,by decide,Tryz.func233.trans (congrArg some (by kernel_rfl))⟩
 f14:=⟨Tryz.f291.name,by decide,Tryz.func291.trans (congrArg some (by kernel_rfl))⟩
 f15:=Tryz.func243.trans (congrArg some (by kernel_rfl))
 f20:=⟨Tryz.f318.name,by decide,Tryz.func318.trans (congrArg some (by kernel_rfl))⟩
 f21:=⟨Tryz.f319.name,by decide,Tryz.func319.trans (congrArg some (by kernel_rfl))⟩
 f22:=⟨Tryz.f320.name,by decide,Tryz.func320.trans (congrArg some (by kernel_rfl))⟩
 f23:=⟨Tryz.f321.name,by decide,Tryz.func321.trans (congrArg some (by kernel_rfl))⟩
 f24:=⟨Tryz.f322.name,by decide,Tryz.func322.trans (congrArg some (by kernel_rfl))⟩
 f25:=⟨Tryz.f323.name,by decide,Tryz.func323.trans (congrArg some (by kernel_rfl))⟩
 f26:=⟨Tryz.f324.name,by decide,Tryz.func324.trans (congrArg some (by kernel_rfl))⟩
 f27:=⟨Tryz.f325.name,by decide,Tryz.func325.trans (congrArg some (by kernel_rfl))⟩
 f28:=Tryz.func302.trans (congrArg some (by kernel_rfl))
 f29:=Tryz.func303.trans (congrArg some (by kernel_rfl))
 f46:=⟨Tryz.f333.name,by decide,Tryz.func333.trans (congrArg some (by kernel_rfl))⟩
 f47:=Tryz.func327.trans (congrArg some (by kernel_rfl))
 f48:=Tryz.func328.trans (congrArg some (by kernel_rfl))
 f49:=⟨Tryz.f334.name,by decide,Tryz.func334.trans (congrArg some (by kernel_rfl))⟩
 f50:=⟨Tryz.f335.name,by decide,Tryz.func335.trans (congrArg some (by kernel_rfl))⟩
 f57:=⟨Tryz.f338.name,by decide,Tryz.func338.trans (congrArg some (by kernel_rfl))⟩
 t0:=Tryz.underlying0
 a0:=Tryz.isAgg0
 z0:=Tryz.sizeOf0
 v0:=Tryz.zeroValue0
 t3:=Tryz.underlying3
 a3:=Tryz.isAgg3
 z3:=Tryz.sizeOf3
 v3:=Tryz.zeroValue3
 t4:=Tryz.underlying4
 a4:=Tryz.isAgg4
 z4:=Tryz.sizeOf4
 v4:=Tryz.zeroValue4
 t5:=Tryz.underlying5
 a5:=Tryz.isAgg5
 z5:=Tryz.sizeOf5
 v5:=Tryz.zeroValue5
 t9:=Tryz.underlying9
 a9:=Tryz.isAgg9
 z9:=Tryz.sizeOf9
 v9:=Tryz.zeroValue9
 t22:=Tryz.underlying31
 a22:=Tryz.isAgg31
 z22:=Tryz.sizeOf31
 v22:=Tryz.zeroValue31
 a24:=Tryz.isAgg62
 z24:=Tryz.sizeOf62
 t25:=Tryz.underlying85
 a25:=Tryz.isAgg85
 z25:=Tryz.sizeOf85
 v25:=Tryz.zeroValue85
 t39:=Tryz.underlying199
 a39:=Tryz.isAgg199
 z39:=Tryz.sizeOf199
 v39:=Tryz.zeroValue199
 t45:=Tryz.underlying262
 a45:=Tryz.isAgg262
 z45:=Tryz.sizeOf262
 v45:=Tryz.zeroValue262
 t46:=Tryz.underlying263
 a46:=Tryz.isAgg263
 z46:=Tryz.sizeOf263
 v46:=Tryz.zeroValue263
 t50:=Tryz.underlying250
 a50:=Tryz.isAgg250
 z50:=Tryz.sizeOf250
 v50:=Tryz.zeroValue250
 t53:=Tryz.underlying270
 a53:=Tryz.isAgg270
 z53:=Tryz.sizeOf270
 v53:=Tryz.zeroValue270
 t55:=Tryz.underlying54
 a55:=Tryz.isAgg54
 z55:=Tryz.sizeOf54
 v55:=Tryz.zeroValue54
 t66:=Tryz.underlying285
 a66:=Tryz.isAgg285
 z66:=Tryz.sizeOf285
 v66:=Tryz.zeroValue285
 t70:=Tryz.underlying289
 a70:=Tryz.isAgg289
 z70:=Tryz.sizeOf289
 v70:=Tryz.zeroValue289
 t76:=Tryz.underlying293
 a76:=Tryz.isAgg293
 z76:=Tryz.sizeOf293
 v76:=Tryz.zeroValue293
 t77:=Tryz.underlying294
 a77:=Tryz.isAgg294
 z77:=Tryz.sizeOf294
 v77:=Tryz.zeroValue294 }
theorem Tryz.sortF0:Go.Proofs.SlLaysF0.n6 Tryz.prog Tryz.sortF_ren:={
 mixed:=by kernel_rfl
 f6:=⟨Tryz.f233.name,by decide,Tryz.func233.trans (congrArg some (by kernel_rfl))⟩
 f14:=⟨Tryz.f291.name,by decide,Tryz.func291.trans (congrArg some (by kernel_rfl))⟩
 f15:=Tryz.func243.trans (congrArg some (by kernel_rfl))
 f20:=⟨Tryz.f318.name,by decide,Tryz.func318.trans (congrArg some (by kernel_rfl))⟩
 f21:=⟨Tryz.f319.name,by decide,Tryz.func319.trans (congrArg some (by kernel_rfl))⟩
 f22:=⟨Tryz.f320.name,by decide,Tryz.func320.trans (congrArg some (by kernel_rfl))⟩
 f23:=⟨Tryz.f321.name,by decide,Tryz.func321.trans (congrArg some (by kernel_rfl))⟩
 f24:=⟨Tryz.f322.name,by decide,Tryz.func322.trans (congrArg some (by kernel_rfl))⟩
 f25:=⟨Tryz.f323.name,by decide,Tryz.func323.trans (congrArg some (by kernel_rfl))⟩
 f26:=⟨Tryz.f324.name,by decide,Tryz.func324.trans (congrArg some (by kernel_rfl))⟩
 f27:=⟨Tryz.f325.name,by decide,Tryz.func325.trans (congrArg some (by kernel_rfl))⟩
 f28:=Tryz.func302.trans (congrArg some (by kernel_rfl))
 f29:=Tryz.func303.trans (congrArg some (by kernel_rfl))
 f46:=⟨Tryz.f333.name,by decide,Tryz.func333.trans (congrArg some (by kernel_rfl))⟩
 f47:=Tryz.func327.trans (congrArg some (by kernel_rfl))
 f48:=Tryz.func328.trans (congrArg some (by kernel_rfl))
 f49:=⟨Tryz.f334.name,by decide,Tryz.func334.trans (congrArg some (by kernel_rfl))⟩
 f50:=⟨Tryz.f335.name,by decide,Tryz.func335.trans (congrArg some (by kernel_rfl))⟩
 f57:=⟨Tryz.f338.name,by decide,Tryz.func338.trans (congrArg some (by kernel_rfl))⟩
 t0:=Tryz.underlying0
 a0:=Tryz.isAgg0
 z0:=Tryz.sizeOf0
 v0:=Tryz.zeroValue0
 t3:=Tryz.underlying3
 a3:=Tryz.isAgg3
 z3:=Tryz.sizeOf3
 v3:=Tryz.zeroValue3
 t4:=Tryz.underlying4
 a4:=Tryz.isAgg4
 z4:=Tryz.sizeOf4
 v4:=Tryz.zeroValue4
 t5:=Tryz.underlying5
 a5:=Tryz.isAgg5
 z5:=Tryz.sizeOf5
 v5:=Tryz.zeroValue5
 t9:=Tryz.underlying9
 a9:=Tryz.isAgg9
 z9:=Tryz.sizeOf9
 v9:=Tryz.zeroValue9
 t22:=Tryz.underlying31
 a22:=Tryz.isAgg31
 z22:=Tryz.sizeOf31
 v22:=Tryz.zeroValue31
 t25:=Tryz.underlying85
 a25:=Tryz.isAgg85
 z25:=Tryz.sizeOf85
 v25:=Tryz.zeroValue85
 t39:=Tryz.underlying199
 a39:=Tryz.isAgg199
 z39:=Tryz.sizeOf199
 v39:=Tryz.zeroValue199
 t45:=Tryz.underlying262
 a45:=Tryz.isAgg262
 z45:=Tryz.sizeOf262
 v45:=Tryz.zeroValue262
 t46:=Tryz.underlying263
 a46:=Tryz.isAgg263
 z46:=Tryz.sizeOf263
 v46:=Tryz.zeroValue263
 t50:=Tryz.underlying250
 a50:=Tryz.isAgg250
 z50:=Tryz.sizeOf250
 v50:=Tryz.zeroValue250
 t53:=Tryz.underlying270
 a53:=Tryz.isAgg270
 z53:=Tryz.sizeOf270
 v53:=Tryz.zeroValue270
 t55:=Tryz.underlying54
 a55:=Tryz.isAgg54
 z55:=Tryz.sizeOf54
 v55:=Tryz.zeroValue54
 t66:=Tryz.underlying285
 a66:=Tryz.isAgg285
 z66:=Tryz.sizeOf285
 v66:=Tryz.zeroValue285
 t70:=Tryz.underlying289
 a70:=Tryz.isAgg289
 z70:=Tryz.sizeOf289
 v70:=Tryz.zeroValue289
 t76:=Tryz.underlying293
 a76:=Tryz.isAgg293
 z76:=Tryz.sizeOf293
 v76:=Tryz.zeroValue293
 t77:=Tryz.underlying294
 a77:=Tryz.isAgg294
 z77:=Tryz.sizeOf294
 v77:=Tryz.zeroValue294 }
def Tryz.lays189_ren:Go.Shelf.Ren:=⟨fun|189=>174|125=>243|257=>242|128=>302|129=>303|294=>293|295=>294|296=>295|297=>296|298=>297|299=>298|216=>299|300=>300|301=>301|328=>326|329=>327|330=>328|331=>329|332=>330|215=>307|343=>336|n=>n,fun|28=>22|3=>3|46=>199|0=>0|51=>270|53=>54|4=>4|183=>263|182=>262|131=>250|5=>5|9=>9|218=>285|222=>289|228=>293|229=>294|n=>n,fun|n=>n⟩
theorem Tryz.lays189:Go.Proofs.Lays.n189 Tryz.prog Tryz.lays189_ren:={
 mixed:=by kernel_rfl
 f125:=Tryz.func243.trans (congrArg some (by kernel_rfl))
 f128:=Tryz.func302.trans (congrArg some (by kernel_rfl))
 f129:=Tryz.func303.trans (congrArg some (by kernel_rfl))
 f189:=Tryz.func174.trans (congrArg some (by kernel_rfl))
 f215:=Tryz.func307.trans (congrArg some (by kernel_rfl))
 f216:=Tryz.func299.trans (congrArg some (by kernel_rfl))
 f257:=Tryz.func242.trans (congrArg some (by kernel_rfl))
 f294:=Tryz.func293.trans (congrArg some (by kernel_rfl))
 f295:=Tryz.func294.trans (congrArg some (by kernel_rfl))
 f296:=Tryz.func295.trans (congrArg some (by kernel_rfl))
 f297:=Tryz.func296.trans (congrArg some (by kernel_rfl))
 f298:=Tryz.func297.trans (congrArg some (by kernel_rfl))
 f299:=Tryz.func298.trans (congrArg some (by kernel_rfl))
 f300:=Tryz.func300.trans (congrArg some (by kernel_rfl))
 f301:=Tryz.func301.trans (congrArg some (by kernel_rfl))
 f328:=Tryz.func326.trans (congrArg some (by kernel_rfl))
 f329:=Tryz.func327.trans (congrArg some (by kernel_rfl))
 f330:=Tryz.func328.trans (congrArg some (by kernel_rfl))
 f331:=Tryz.func329.trans (congrArg some (by kernel_rfl))
 f332:=Tryz.func330.trans (congrArg some (by kernel_rfl))
 f343:=Tryz.func336.trans (congrArg some (by kernel_rfl))
 t0:=Tryz.underlying0
 a0:=Tryz.isAgg0
 z0:=Tryz.sizeOf0
 v0:=Tryz.zeroValue0
 t3:=Tryz.underlying3
 a3:=Tryz.isAgg3
 z3:=Tryz.sizeOf3
 v3:=Tryz.zeroValue3
 t4:=Tryz.underlying4
 a4:=Tryz.isAgg4
 z4:=Tryz.sizeOf4
 v4:=Tryz.zeroValue4
 t5:=Tryz.underlying5
 a5:=Tryz.isAgg5
 z5:=Tryz.sizeOf5
 v5:=Tryz.zeroValue5
 t9:=Tryz.underlying9
 a9:=Tryz.isAgg9
 z9:=Tryz.sizeOf9
 v9:=Tryz.zeroValue9
 t28:=Tryz.underlying22
 a28:=Tryz.isAgg22
 z28:=Tryz.sizeOf22
 v28:=Tryz.zeroValue22
 t46:=Tryz.underlying199
 a46:=Tryz.isAgg199
 z46:=Tryz.sizeOf199
 v46:=Tryz.zeroValue199
 t51:=Tryz.underlying270
 a51:=Tryz.isAgg270
 z51:=Tryz.sizeOf270
 v51:=Tryz.zeroValue270
 t53:=Tryz.underlying54
 a53:=Tryz.isAgg54
 z53:=Tryz.sizeOf54
 v53:=Tryz.zeroValue54
 t131:=Tryz.underlying250
 a131:=Tryz.isAgg250
 z131:=Tryz.sizeOf250
 v131:=Tryz.zeroValue250
 t182:=Tryz.underlying262
 a182:=Tryz.isAgg262
 z182:=Tryz.sizeOf262
 v182:=Tryz.zeroValue262
 t183:=Tryz.underlying263
 a183:=Tryz.isAgg263
 z183:=Tryz.sizeOf263
 v183:=Tryz.zeroValue263
 t218:=Tryz.underlying285
 a218:=Tryz.isAgg285
 z218:=Tryz.sizeOf285
 v218:=Tryz.zeroValue285
 t222:=Tryz.underlying289
 a222:=Tryz.isAgg289
 z222:=Tryz.sizeOf289
 v222:=Tryz.zeroValue289
 t228:=Tryz.underlying293
 a228:=Tryz.isAgg293
 z228:=Tryz.sizeOf293
 v228:=Tryz.zeroValue293
 t229:=Tryz.underlying294
 a229:=Tryz.isAgg294
 z229:=Tryz.sizeOf294
 v229:=Tryz.zeroValue294 }
end Go.Proofs
namespace Go.AM
inductive aa where
 |int (k:IntKind) (n:Int)
 |bool (b:Bool)
 |str (s:List UInt8)
 |nilp
 |nilf
 |nilm
 |agg (cs:List aa)
 |tup (vs:List aa)
 |wh (b:Bool) (xs:List aa)
 |lst (xs:List aa)
 |yz
 |sl (id ep off len:Nat)
 |ptr (id ep i off:Nat)
 |asl (id ep i off n:Nat)
 |cptr (b:Bool) (x:aa) (off:Nat)
 |fn (f:Nat) (first cap:List aa)
 |imap (b:Bool) (es:List (aa×aa))
 |mp (id:Nat)
 |yld (l site:Nat) (env:List aa)
 |frs (k:Nat) (xs:List aa)
 |emp (b:Bool)
 |any
 deriving Inhabited
inductive Ex where
 |nrm
 |ext (id:Nat)
 |ret
 deriving DecidableEq,Inhabited
inductive Obj where
 |arr (k ep:Nat) (es:List aa)
 |map (es:List (aa×aa))
 |pend (busy:Bool) (j:Option Ex)
 |dead
 deriving Inhabited
abbrev ah:=List Obj
def iw:aa→Bool
 |.int ..=>true
 |.str _=>true
 |_=>false
def isAgg:aa→Bool
 |.agg _=>true
 |_=>false
def cellsOf:aa→List aa
 |.agg cs=>cs
 |v=>[v]
def aw:aa→Nat
 |.agg cs=>cs.length
 |.any|.tup _|.frs _ _|.asl ..=>0
 |_=>1
def ub(a:Bool)(s:Nat)(x:aa)(off:Nat):Option aa:=
 if off=0∧aw x=s∧isAgg x=a then some x
 else if a then (if off+s≤aw x then some (.agg (((cellsOf x).drop off).take s)) else none)
 else (cellsOf x)[off]?
def Bw(s:Nat)(x:aa)(off:Nat)(v:aa):Option aa:=
 if aw v=s then
  if off=0∧aw x=s∧isAgg x=isAgg v then some v
  else if off+s≤aw x∧isAgg x=true then some (.agg ((cellsOf x).take off++cellsOf v++(cellsOf x).drop (off+s)))
  else none
 else none
def sliceAt(σ:ah)(id ep off len:Nat):Option (List aa):=
 match σ[id]? with
 |some (.arr _ e es)=>if e=ep∧off+len≤es.length then some ((es.drop off).take len) else none
 |_=>none
def oX(σ:ah)(id ep i:Nat):Option aa:=
 match σ[id]? with
 |some (.arr _ e es)=>if e=ep then es[i]? else none
 |_=>none
def adN(σ:ah)(id:Nat):Option Nat:=
 match σ[id]? with
 |some (.arr k _ _)=>some k
 |_=>none
def fresh(σ:ah)(id ep:Nat):Bool:=
 match σ[id]? with
 |some (.arr _ e _)=>e==ep
 |_=>false
def ff(σ:ah)(id:Nat):Option (List (aa×aa)):=
 match σ[id]? with
 |some (.map es)=>some es
 |_=>none
def jH(fl:Bool)(l l':List aa):aa:=if l'.map aw=l.map aw then .wh fl l' else .any
def gd(fl:Bool)(x x':aa)(off:Nat):aa:=if aw x'=aw x then .cptr fl x' off else .any
def fz(fl top:Bool)(base:Nat)(σ:ah):Nat→aa→aa
 |0,_=>.any
 |n+1,v=>match v with
  |.agg cs=>.agg (cs.map (fz fl top base σ n))
  |.tup vs=>.tup (vs.map (fz fl top base σ n))
  |.yz=>if !fl&&top then .yz else .wh false []
  |.wh b xs=>if b&&!fl&&!top then .any else .wh b xs
  |.lst xs=>jH fl xs (xs.map (fz fl false base σ n))
  |.cptr b x o=>if b then (if fl then gd true x (fz fl false base σ n x) o else if top then gd true x (fz fl top base σ n x) o else .any) else .cptr false x o
  |.imap b es=>if b&&!fl&&!top then .any else .imap b es
  |.sl id ep off len=>if id<base then (if top then .sl id ep off len else .any) else (sliceAt σ id ep off len).elim .any fun l=>jH fl l (l.map (fz fl false base σ n))
  |.ptr id ep i off=>if id<base then (if top then .ptr id ep i off else .any) else (oX σ id ep i).elim .any fun x=>gd fl x (fz fl false base σ n x) off
  |.asl id ep i off m=>if id<base&&top then .asl id ep i off m else .any
  |.mp id=>if id<base then (if top then .mp id else .any) else (ff σ id).elim .any fun es=>.imap fl (es.map fun e=>(e.1,fz fl false base σ n e.2))
  |.fn f first cap=>.fn f (first.map (fz fl top base σ n)) (cap.map (fz fl top base σ n))
  |.yld l site env=>if l<base&&top then .yld l site (env.map (fz fl top base σ n)) else .any
  |.frs _ _=>.any
  |v=>v
def bQ:Nat:=20
def dW(σ:ah)(v:aa):aa:=fz true false 0 σ bQ v
def jj(σ:ah)(v:aa):aa:=fz false false 0 σ bQ v
def aZ(base:Nat)(σ:ah)(v:aa):aa:=fz false true base σ bQ v
def Xn(k ep:Nat)(l l':List aa):Obj:=if l'.map aw=l.map aw then .arr k ep l' else .dead
def ap(base:Nat)(σ:ah):Obj→Obj
 |.arr k ep es=>Xn k ep es (es.map (aZ base σ))
 |.map es=>.map (es.map fun e=>(e.1,aZ base σ e.2))
 |o=>o
def neg(n:Bool)(t:Bool):aa:=.bool (if n then !t else t)
def rd(σ:ah):aa→Option (List aa)
 |.wh _ xs=>some xs
 |.lst xs=>some xs
 |.yz=>some []
 |.emp _=>some []
 |.sl id ep off len=>sliceAt σ id ep off len
 |.str s=>some (s.map fun c=>.int .u8 c.toNat)
 |_=>none
mutual
def same:aa→aa→Bool
 |.int k n,.int k' n'=>k==k'&&n==n'
 |.bool a,.bool b=>a==b
 |.str a,.str b=>a==b
 |.nilp,.nilp=>true
 |.nilf,.nilf=>true
 |.nilm,.nilm=>true
 |.agg a,.agg b=>nm a b
 |.tup a,.tup b=>nm a b
 |.wh b xs,.wh b' ys=>b==b'&&nm xs ys
 |.lst xs,.lst ys=>nm xs ys
 |.yz,.yz=>true
 |.sl a b c d,.sl a' b' c' d'=>a==a'&&b==b'&&c==c'&&d==d'
 |.ptr a b c d,.ptr a' b' c' d'=>a==a'&&b==b'&&c==c'&&d==d'
 |.asl a b c d e,.asl a' b' c' d' e'=>a==a'&&b==b'&&c==c'&&d==d'&&e==e'
 |.cptr b x o,.cptr b' y o'=>b==b'&&same x y&&o==o'
 |.fn f a b,.fn f' a' b'=>f==f'&&nm a a'&&nm b b'
 |.imap b es,.imap b' es'=>b==b'&&yd es es'
 |.mp a,.mp b=>a==b
 |.yld l s env,.yld l' s' env'=>l==l'&&s==s'&&nm env env'
 |.frs k xs,.frs k' ys=>k==k'&&nm xs ys
 |.emp a,.emp b=>a==b
 |.any,.any=>true
 |_,_=>false
def nm:List aa→List aa→Bool
 |[],[]=>true
 |a::x,b::y=>same a b&&nm x y
 |_,_=>false
def yd:List (aa×aa)→List (aa×aa)→Bool
 |[],[]=>true
 |(a,b)::x,(a',b')::y=>same a a'&&same b b'&&yd x y
 |_,_=>false
end
def Q9:Obj→Obj→Bool
 |.arr k e xs,.arr k' e' ys=>k==k'&&e==e'&&nm xs ys
 |.map es,.map es'=>yd es es'
 |.pend b j,.pend b' j'=>b==b'&&decide (j=j')
 |.dead,.dead=>true
 |_,_=>false
def oa:ah→ah→Bool
 |[],[]=>true
 |a::x,b::y=>Q9 a b&&oa x y
 |_,_=>false
inductive bp where
 |env (i:Nat)
 |loc (j:Nat)
 |val (v:aa)
 deriving Inhabited
inductive F4 where
 |mov (x:bp)
 |pick (c a b:bp)
 |box (k:Nat) (x:bp)
 |build (zero:List aa) (parts:List (Nat×Nat×bp))
 |mknil (k:Nat)
 |mkl (k:Nat) (xs:List bp)
 |mksl (k:Nat) (xs:List bp)
 |mkslz (k:Nat) (zero:aa) (n:Nat) (parts:List (Nat×bp))
 |make (k:Nat) (zero:aa) (n c:bp)
 |load (a:Bool) (s:Nat) (x:bp)
 |store (s:Nat) (x v:bp)
 |fld (off:Nat) (x:bp)
 |fldv (a:Bool) (s off:Nat) (x:bp)
 |idxs (k:Nat) (x i:bp)
 |idxa (n s:Nat) (x i:bp)
 |idxv (a:Bool) (n s:Nat) (x i:bp)
 |idxt (x i:bp)
 |bin (op:BinOp) (x y:bp)
 |eqb (n:Bool) (x y:bp)
 |eqa (n:Bool) (ks:List Nat) (x y:bp)
 |isnil (n:Bool) (x:bp)
 |nils (n:Bool) (x:bp)
 |una (op:UnOp) (x:bp)
 |conv (k:IntKind) (x:bp)
 |slice (k:Nat) (x:bp) (lo hi:Option bp)
 |slicet (x:bp) (lo hi:Option bp)
 |slice0 (x:bp)
 |aslice (n:Nat) (x:bp)
 |len (x:bp)
 |lent (x:bp)
 |cap (x:bp)
 |app (k:Nat) (x y:bp)
 |appz (k:Nat) (zero:aa) (x n:bp)
 |copy (k:Nat) (x y:bp)
 |mins (x:bp) (xs:List bp)
 |maxs (x:bp) (xs:List bp)
 |mkfn (f:Nat) (first cap:List bp)
 |ext (i:Nat) (x:bp)
 |nilck (x:bp)
 |call (f:Nat) (args:List bp) (mat:Bool)
 |callv (f:bp) (args:List bp)
 |mkmap
 |mput (m k v:bp)
 |look (zero:aa) (ok:Bool) (m k:bp)
 |mlen (m:bp)
 |clr (zero:aa) (x:bp)
 |bad
 deriving Inhabited
structure aU where
 op:F4
 guard:Option (bp×Bool):=none
 deriving Inhabited
inductive ai where
 |skip
 |reg (ops:List aU) (nQ:List (Nat×bp))
 |regd (ops:List aU) (nQ:List (Nat×bp)) (chk:List (Nat×Nat))
 |seq (a b:ai)
 |cond (c:bp) (a b:ai)
 |blk (id:Nat) (b:ai)
 |loop (clr:List Nat) (b:ai)
 |exit (id:Nat)
 |ret
 |rng (n:Nat) (f:bp) (site:Nat)
 |scope (b:ai)
 |lift (i off k:Nat) (b:ai)
 deriving Inhabited
inductive Bq where
 |pure
 |fresh (k:Nat)
 |keep
 |trunc
 deriving DecidableEq,Inhabited
inductive Q2 where
 |env (i:Nat)
 |cell (a:Bool) (s i:Nat)
 deriving Inhabited
structure aD where
 nenv:Nat
 np:Nat
 mode:Bq
 res:List Q2
 body:ai
 deriving Inhabited
structure vH where
 nenv:Nat
 params:List Nat
 pre:ai
 body:ai
 deriving Inhabited
abbrev ec:=Nat→List aa→ah→Option (aa×ah)
abbrev akI:=ec→List aa→ah→Option (aa×ah)
inductive gG where
 |none
 |fn (f:aD)
 |nilfn (f:aD)
 |round (r:vH)
 |prim (k:Nat)
 deriving Inhabited
def kr(l:List aa)(i:Nat):aa:=l[i]?.getD .any
def bp.eval(env ls:List aa):bp→aa
 |.env i=>kr env i
 |.loc j=>kr ls j
 |.val v=>v
def pa:aa→aa→Option Bool
 |.int k a,.int k' b=>if k=k' then some (a==b) else none
 |.bool a,.bool b=>some (a==b)
 |.str a,.str b=>some (a==b)
 |_,_=>none
def js:List aa→List aa→Option Bool
 |[],[]=>some true
 |a::x,b::y=>(pa a b).bind fun t=>if t then js x y else (js x y).map fun _=>false
 |_,_=>none
def ahT:aa→Option Bool
 |.nilp|.nilf|.nilm=>some true
 |.cptr ..|.fn ..=>some false
 |_=>none
def intBits(op:BinOp)(k:IntKind)(x y:Int):Option Int:=
 let a:=BitVec.ofInt k.bits x
 let b:=BitVec.ofInt k.bits y
 match op with
 |.and=>some (k.wrap (a &&& b).toNat)
 |.or=>some (k.wrap (a |||b).toNat)
 |.xor=>some (k.wrap (a ^^^ b).toNat)
 |.andNot=>some (k.wrap (a &&& ~~~b).toNat)
 |_=>none
def K7(op:BinOp)(k:IntKind)(a b:Int):Option aa:=
 match op with
 |.add=>some (.int k (k.wrap (a+b)))
 |.sub=>some (.int k (k.wrap (a-b)))
 |.mul=>some (.int k (k.wrap (a*b)))
 |.quo=>if b=0 then none else some (.int k (k.wrap (a.tdiv b)))
 |.rem=>if b=0 then none else some (.int k (a.tmod b))
 |.eql=>some (.bool (a==b))
 |.neq=>some (.bool (a != b))
 |.lss=>some (.bool (decide (a<b)))
 |.leq=>some (.bool (decide (a≤b)))
 |.gtr=>some (.bool (decide (a>b)))
 |.geq=>some (.bool (decide (a≥b)))
 |.shl|.shr=>none
 |_=>(intBits op k a b).map (.int k)
def most:Nat:=2^36
def eY(op:BinOp)(a b:List UInt8):Option aa:=
 match op with
 |.add=>if a.length+b.length≤most then some (.str (a++b)) else none
 |.eql=>some (.bool (a==b))
 |.neq=>some (.bool (!(a==b)))
 |.lss=>some (.bool (Op.bytesLess a b))
 |.leq=>some (.bool (Op.bytesLess a b ||a==b))
 |.gtr=>some (.bool (!(Op.bytesLess a b ||a==b)))
 |.geq=>some (.bool (!(Op.bytesLess a b)))
 |_=>none
def shift(op:BinOp)(k:IntKind)(a b:Int):Option aa:=
 if b<0 then none else
 match op with
 |.shl=>some (.int k (k.wrap (a*2^(min b.toNat k.bits))))
 |.shr=>some (.int k (a.fdiv (2^(min b.toNat k.bits))))
 |_=>none
def bin(op:BinOp)(x y:aa):Option aa:=
 match x,y with
 |.int k a,.int k' b=>
  match op with
  |.shl=>shift op k a b
  |.shr=>shift op k a b
  |_=>if k=k' then K7 op k a b else none
 |.str a,.str b=>eY op a b
 |_,_=>none
def eqb(n:Bool)(x y:aa):Option aa:=
 match x,y with
 |.bool a,.bool b=>some (neg n (a==b))
 |_,_=>none
def CB:aa→Nat
 |.int ..=>0
 |.bool _=>1
 |.str _=>2
 |_=>3
def cX:List Nat→List aa→List aa→Option Bool
 |[],_,_=>some true
 |k::ks,a::x,b::y=>if CB a=k then (pa a b).bind fun t=>if t then cX ks x y else some false else none
 |_,_,_=>none
def eqa(n:Bool)(ks:List Nat)(x y:aa):Option aa:=
 match x,y with
 |.agg a,.agg b=>(cX ks a b).map (neg n)
 |_,_=>none
def isnil(n:Bool)(x:aa):Option aa:=(ahT x).map (neg n)
def eZ(σ:ah)(x:aa):Bool:=
 match x with
 |.str _=>false
 |x=>match rd σ x with
  |some []=>true
  |_=>false
def pw(n:Bool)(σ:ah)(x:aa):Option aa:=
 match x with
 |.emp b=>some (neg n b)
 |.str _=>none
 |x=>match rd σ x with
  |some (_::_)=>some (neg n false)
  |_=>none
def una(op:UnOp)(x:aa):Option aa:=
 match op,x with
 |.neg,.int k n=>some (.int k (k.wrap (0-n)))
 |.xor,.int k n=>(intBits .xor k (if k.signed then -1 else k.max) n).map (.int k)
 |.not,.bool b=>some (.bool (!b))
 |_,_=>none
def jn(σ:ah):aa→Option Nat
 |.wh _ xs=>some xs.length
 |.lst xs=>some xs.length
 |.yz=>some 0
 |.emp _=>some 0
 |.sl id ep _ n=>if fresh σ id ep then some n else none
 |_=>none
def I6:aa→Option Nat
 |.str s=>some s.length
 |_=>none
def Ah(σ:ah):aa→Bool
 |.wh _ _|.lst _|.yz=>true
 |.sl id ep _ _=>fresh σ id ep
 |_=>false
def lL:aa→Option Nat
 |.int _ n=>if 0≤n then some n.toNat else none
 |_=>none
def aslice(σ:ah)(k:Nat)(x:aa)(lo hi:Nat):Option aa:=
 match x with
 |.wh b xs=>if lo≤hi∧hi≤xs.length∧xs.all (fun y=>aw y==k) then some (.wh b ((xs.drop lo).take (hi-lo))) else none
 |.lst xs=>if lo≤hi∧hi≤xs.length∧xs.all (fun y=>aw y==k) then some (.lst ((xs.drop lo).take (hi-lo))) else none
 |.yz=>if lo=0∧hi=0 then some .yz else none
 |.sl id ep off n=>if lo≤hi∧hi≤n∧adN σ id=some k then some (.sl id ep (off+lo) (hi-lo)) else none
 |_=>none
def Ij(x:aa)(lo hi:Nat):Option aa:=
 match x with
 |.str s=>if lo≤hi∧hi≤s.length then some (.str ((s.drop lo).take (hi-lo))) else none
 |_=>none
def append(k:Nat)(x:aa)(ys:List aa)(σ:ah):Option (aa×ah):=
 if ys.length=0 then (if Ah σ x then some (x,σ) else none) else
 if ys.all (fun y=>aw y==k) then
  match x with
  |.yz=>if ys.length≤most then some (.sl σ.length 0 0 ys.length,σ++[.arr k 0 ys]) else none
  |.sl id ep off n=>match σ[id]? with
   |some (.arr k' e es)=>
    if k'=k∧e=ep∧off+n≤es.length∧off=0∧n+ys.length≤most then
     some (.sl id (ep+1) 0 (n+ys.length),σ.set id (.arr k (ep+1) (es.take n++ys)))
    else none
   |_=>none
  |_=>none
 else none
def loadAt(a:Bool)(s:Nat)(p:aa)(σ:ah):Option aa:=
 match p with
 |.cptr _ x off=>ub a s x off
 |.ptr id ep i off=>(oX σ id ep i).bind fun x=>ub a s x off
 |_=>none
def storeAt(s:Nat)(p v:aa)(σ:ah):Option ah:=
 match p with
 |.ptr id ep i off=>match σ[id]? with
  |some (.arr k e es)=>
   if e=ep then (es[i]?).bind fun x=>(Bw s x off v).map fun x'=>σ.set id (.arr k e (es.set i x')) else none
  |_=>none
 |_=>none
def Kh(a b:aa):Option Bool:=match a,b with
 |.int k x,.int k' y=>if k=k' then some (x==y) else none
 |_,_=>none
def lookup(k:aa):List (aa×aa)→Option (Option aa)
 |[]=>some none
 |e::r=>match Kh e.1 k with
  |some true=>some (some e.2)
  |some false=>lookup k r
  |none=>none
def mput(k v:aa):List (aa×aa)→Option (List (aa×aa))
 |[]=>some [(k,v)]
 |e::r=>match Kh e.1 k with
  |some true=>some ((e.1,v)::r)
  |some false=>(mput k v r).map (e::·)
  |none=>none
def ng:aa→Bool
 |.int ..=>true
 |_=>false
def ct(env ls:List aa)(d:Nat):Option bp→Option Nat
 |none=>some d
 |some o=>lL (o.eval env ls)
def fill(zero:List aa):List (Nat×Nat×aa)→Option (List aa)
 |[]=>some zero
 |(off,s,v)::r=>if aw v=s∧s≠0∧off+s≤zero.length then fill (zero.take off++cellsOf v++zero.drop (off+s)) r else none
def M9(l:List aa):List (Nat×aa)→List aa
 |[]=>l
 |(i,v)::r=>M9 (l.set i v) r
def tB(lt:Bool):aa→List aa→Option aa
 |x,[]=>some x
 |.int k a,.int k' b::r=>if k=k' then tB lt (.int k (if lt then (if b<a then b else a) else (if a<b then b else a))) r else none
 |_,_=>none
def sT(σ:ah)(l:Nat):Bool:=match σ[l]? with
 |some (.pend false none)=>true
 |_=>false
def qK(C:ec)(f:aa)(args:List aa)(σ:ah):Option (aa×ah):=
 match f with
 |.fn f first cap=>C f (first++args++cap) σ
 |.yld l site env=>if sT σ l then C site (.frs l []::env++args) σ else none
 |_=>none
def IA(C:ec)(f:aa)(args:List aa)(σ:ah):Option (aa×ah):=
 match f with
 |.fn f first cap=>C f (first++args++cap) σ
 |_=>none
def rI(mat:Bool)(v:aa)(σ:ah):aa×ah:=
 match v with
 |.frs k xs=>if mat then (.sl σ.length 0 0 xs.length,σ++[.arr k 0 xs]) else (.wh false xs,σ)
 |v=>(v,σ)
def mater(mat:Bool)(r:aa×ah):aa×ah:=
 match r.1 with
 |.tup (v::vs)=>let q:=rI mat v r.2;(.tup (q.1::vs),q.2)
 |v=>rI mat v r.2
def Jc(σ:ah)(off:Nat):aa→Option aa
 |.ptr id ep i o=>if fresh σ id ep then some (.ptr id ep i (o+off)) else none
 |.cptr b y o=>some (.cptr b y (o+off))
 |_=>none
def Ar(σ:ah)(k n:Nat):aa→Option aa
 |.wh b xs=>(xs[n]?).bind fun y=>if aw y=k then some (.cptr b y 0) else none
 |.lst xs=>(xs[n]?).bind fun y=>if aw y=k then some (.cptr true y 0) else none
 |.sl id ep off m=>if n<m∧adN σ id=some k∧fresh σ id ep then some (.ptr id ep (off+n) 0) else none
 |_=>none
def Mo(σ:ah):aa→Option aa
 |.ptr id ep i o=>if fresh σ id ep then some (.ptr id ep i o) else none
 |.cptr b y o=>some (.cptr b y o)
 |.fn f a b=>some (.fn f a b)
 |_=>none
def Xc(k:IntKind):aa→Option aa
 |.int _ n=>some (.int k (k.wrap n))
 |_=>none
def abZ(i:Nat):aa→Option aa
 |.tup vs=>vs[i]?
 |_=>none
def Qf(n:Nat):aa→Option aa
 |.str t=>(t[n]?).map fun c=>.int .u8 c.toNat
 |_=>none
def D8(σ:ah):aa→Option (List (aa×aa))
 |.imap _ es=>some es
 |.nilm=>some []
 |.mp id=>ff σ id
 |_=>none
def Qa(σ:ah)(key v:aa):aa→Option ah
 |.mp id=>(ff σ id).bind fun es=>if ng key then (mput key v es).map fun es'=>σ.set id (.map es') else none
 |_=>none
def Z9(σ:ah)(zero:aa):aa→Option ah
 |.sl id ep off n=>match σ[id]? with
  |some (.arr k e es)=>if e=ep∧off+n≤es.length∧aw zero=k then some (σ.set id (.arr k e (es.take off++List.replicate n zero++es.drop (off+n)))) else none
  |_=>none
 |.yz=>some σ
 |_=>none
def Xj(a b:aa):aa→Option aa
 |.bool t=>some (if t then a else b)
 |_=>none
def HO(a:Bool)(s off:Nat)(x:aa):Option aa:=if isAgg x=true∧aw x≠0 then ub a s x off else none
def abb(σ:ah)(n:Nat):aa→Option aa
 |.ptr id ep i o=>if fresh σ id ep then some (.asl id ep i o n) else none
 |_=>none
def aeF:aa→Nat
 |.sl _ _ _ n=>n
 |.asl _ _ _ _ n=>n
 |_=>0
def Kt(σ:ah)(n:Nat):aa→Option (List aa)
 |.sl id ep off len=>(rd σ (.sl id ep off len)).map (·.take n)
 |y=>rd σ y
def ON(σ:ah)(k0:Nat)(ys:List aa):aa→Option ah
 |.asl id ep i off n=>match σ[id]? with
  |some (.arr k e es)=>if e=ep∧k0=1∧ys.length≤n∧ys.all (fun y=>aw y==1&&!isAgg y) then (es[i]?).bind fun x=>
    if isAgg x=true∧off+n≤aw x then some (σ.set id (.arr k e (es.set i (.agg ((cellsOf x).take off++ys++(cellsOf x).drop (off+ys.length)))))) else none
   else none
  |_=>none
 |.sl id ep off n=>match σ[id]? with
  |some (.arr k e es)=>if e=ep∧k=k0∧ys.length≤n∧off+n≤es.length∧ys.all (fun y=>aw y==k) then
    some (σ.set id (.arr k e (es.take off++ys++es.drop (off+ys.length)))) else none
  |_=>none
 |_=>none
def agC:aa→Option aa
 |.yz=>some (.int .i64 0)
 |_=>none
def aN(C:ec)(env ls:List aa)(σ:ah):F4→Option (aa×ah)
 |.mov x=>some (x.eval env ls,σ)
 |.pick c a b=>(Xj (a.eval env ls) (b.eval env ls) (c.eval env ls)).map (·,σ)
 |.box k x=>let v:=x.eval env ls;if aw v=k then some (.ptr σ.length 0 0 0,σ++[.arr k 0 [v]]) else none
 |.build zero parts=>(fill zero (parts.map fun p=>(p.1,p.2.1,p.2.2.eval env ls))).map fun cs=>(.agg cs,σ)
 |.mknil k=>some (.sl σ.length 0 0 0,σ++[.arr k 0 []])
 |.mkl k xs=>let vs:=xs.map (·.eval env ls);if vs.all (fun v=>aw v==k) then some (.lst vs,σ) else none
 |.mksl k xs=>let vs:=xs.map (·.eval env ls)
  if vs=[] then some (.yz,σ) else
  if vs.all (fun v=>aw v==k) then some (.sl σ.length 0 0 vs.length,σ++[.arr k 0 vs]) else none
 |.mkslz k zero n parts=>let vs:=M9 (List.replicate n zero) (parts.map fun p=>(p.1,p.2.eval env ls))
  if vs.all (fun v=>aw v==k) then some (.sl σ.length 0 0 n,σ++[.arr k 0 vs]) else none
 |.make k zero n c=>(lL (n.eval env ls)).bind fun m=>(lL (c.eval env ls)).bind fun d=>
   if m=d∧aw zero=k∧m≤most then some (.sl σ.length 0 0 m,σ++[.arr k 0 (List.replicate m zero)]) else none
 |.load a s x=>(loadAt a s (x.eval env ls) σ).map (·,σ)
 |.store s x v=>(storeAt s (x.eval env ls) (v.eval env ls) σ).map (.any,·)
 |.fld off x=>(Jc σ off (x.eval env ls)).map (·,σ)
 |.fldv a s off x=>(HO a s off (x.eval env ls)).map (·,σ)
 |.idxs k x i=>(lL (i.eval env ls)).bind fun n=>(Ar σ k n (x.eval env ls)).map (·,σ)
 |.idxa m s x i=>(lL (i.eval env ls)).bind fun n=>if n<m then (Jc σ (n*s) (x.eval env ls)).map (·,σ) else none
 |.idxv a m s x i=>(lL (i.eval env ls)).bind fun n=>if n<m then (HO a s (n*s) (x.eval env ls)).map (·,σ) else none
 |.idxt x i=>(lL (i.eval env ls)).bind fun n=>(Qf n (x.eval env ls)).map (·,σ)
 |.bin op x y=>(bin op (x.eval env ls) (y.eval env ls)).map (·,σ)
 |.eqb n x y=>(eqb n (x.eval env ls) (y.eval env ls)).map (·,σ)
 |.eqa n ks x y=>(eqa n ks (x.eval env ls) (y.eval env ls)).map (·,σ)
 |.isnil n x=>(isnil n (x.eval env ls)).map (·,σ)
 |.nils n x=>(pw n σ (x.eval env ls)).map (·,σ)
 |.una op x=>(una op (x.eval env ls)).map (·,σ)
 |.conv k x=>(Xc k (x.eval env ls)).map (·,σ)
 |.slice k x lo hi=>let v:=x.eval env ls
  (jn σ v).bind fun n=>(ct env ls 0 lo).bind fun l=>(ct env ls n hi).bind fun h=>(aslice σ k v l h).map (·,σ)
 |.slicet x lo hi=>let v:=x.eval env ls
  (I6 v).bind fun n=>(ct env ls 0 lo).bind fun l=>(ct env ls n hi).bind fun h=>(Ij v l h).map (·,σ)
 |.slice0 x=>(jn σ (x.eval env ls)).map fun _=>(.yz,σ)
 |.aslice n x=>(abb σ n (x.eval env ls)).map (·,σ)
 |.len x=>(jn σ (x.eval env ls)).map fun (n:Nat)=>(.int .i64 (n:Int),σ)
 |.lent x=>(I6 (x.eval env ls)).map fun (n:Nat)=>(.int .i64 (n:Int),σ)
 |.cap x=>(agC (x.eval env ls)).map (·,σ)
 |.app k x y=>(rd σ (y.eval env ls)).bind fun ys=>append k (x.eval env ls) ys σ
 |.appz k zero x n=>(lL (n.eval env ls)).bind fun m=>if aw zero=k∧m≤most then append k (x.eval env ls) (List.replicate m zero) σ else none
 |.copy k x y=>(Kt σ (aeF (x.eval env ls)) (y.eval env ls)).bind fun ys=>(ON σ k ys (x.eval env ls)).map fun σ'=>(.int .i64 (ys.length:Int),σ')
 |.mins x xs=>(tB true (x.eval env ls) (xs.map (·.eval env ls))).map (·,σ)
 |.maxs x xs=>(tB false (x.eval env ls) (xs.map (·.eval env ls))).map (·,σ)
 |.mkfn f first cap=>some (.fn f (first.map (·.eval env ls)) (cap.map (·.eval env ls)),σ)
 |.ext i x=>(abZ i (x.eval env ls)).map (·,σ)
 |.nilck x=>(Mo σ (x.eval env ls)).map (·,σ)
 |.call f args mat=>(C f (args.map (·.eval env ls)) σ).map (mater mat)
 |.callv f args=>(qK C (f.eval env ls) (args.map (·.eval env ls)) σ).map (mater false)
 |.mkmap=>some (.mp σ.length,σ++[.map []])
 |.mput m k v=>(Qa σ (k.eval env ls) (v.eval env ls) (m.eval env ls)).map (.any,·)
 |.look zero ok m k=>if ng (k.eval env ls) then (D8 σ (m.eval env ls)).bind fun es=>(lookup (k.eval env ls) es).map fun r=>(if ok then .tup [r.getD zero,.bool r.isSome] else r.getD zero,σ) else none
 |.mlen m=>(D8 σ (m.eval env ls)).map fun es=>(.int .i64 (es.length:Int),σ)
 |.clr zero x=>(Z9 σ zero (x.eval env ls)).map (.any,·)
 |.bad=>none
def wanted(env ls:List aa):Option (bp×Bool)→Option Bool
 |none=>some true
 |some (j,b)=>match j.eval env ls with
  |.bool t=>some (t==b)
  |.tup []=>some false
  |_=>none
def ib(C:ec)(env:List aa):List aU→List aa→ah→Option (List aa×ah)
 |[],ls,σ=>some (ls,σ)
 |i::r,ls,σ=>match wanted env ls i.guard with
  |some true=>(aN C env ls σ i.op).bind fun q=>ib C env r (ls++[q.1]) q.2
  |some false=>ib C env r (ls++[.tup []]) σ
  |none=>none
def pO(C:ec)(env:List aa):List aU→List aa→List ah→ah→Option (List aa×List ah×ah)
 |[],ls,ss,σ=>some (ls,ss,σ)
 |i::r,ls,ss,σ=>match wanted env ls i.guard with
  |some true=>(aN C env ls σ i.op).bind fun q=>pO C env r (ls++[q.1]) (ss++[σ]) q.2
  |some false=>pO C env r (ls++[.tup []]) (ss++[σ]) σ
  |none=>none
def mg(C:ec)(env ls:List aa)(ops:List aU)(ss:List ah):List (Nat×Nat)→Option Unit
 |[]=>some ()
 |(n,j)::r=>match ops[n]?,ss[j]? with
  |some i,some τ=>(aN C env (ls.take n) τ i.op).bind fun q=>if same q.1 (kr ls n)&&oa q.2 τ then mg C env ls ops ss r else none
  |_,_=>none
def nQ(env old ls:List aa):List (Nat×bp)→List aa
 |[]=>env
 |(s,j)::r=>nQ (env.set s (j.eval old ls)) old ls r
structure St where
 env:List aa
 st:ah
def clear(env:List aa):List Nat→List aa
 |[]=>env
 |i::r=>clear (env.set i .any) r
def ar(base:Nat)(clr:List Nat)(s:St):St:=
 if s.st.length=base then ⟨clear s.env clr,s.st⟩
 else ⟨(clear s.env clr).map (aZ base s.st),(s.st.take base).map (ap base s.st)⟩
def mN(base:Nat)(clr:List Nat)(f:St→Option (Ex×St)):Nat→St→Option (Ex×St)
 |0,_=>none
 |n+1,s=>(f s).bind fun r=>match r.1 with
  |.nrm=>mN base clr f n (ar base clr r.2)
  |e=>some (e,r.2)
def tM(l:Nat)(env:List aa)(σ:ah):Option (Ex×St):=
 match σ[l]? with
 |some (.pend false none)=>some (.nrm,⟨env,σ.set l .dead⟩)
 |some (.pend false (some e))=>some (e,⟨env,σ.set l .dead⟩)
 |_=>none
def Dm(id ep j q k:Nat)(σ:ah):Option ah:=
 match σ[id]? with
 |some (.arr k' e es)=>if e=ep∧k≠0 then (match es[j]? with
  |some (.agg cs)=>(match cs[q]? with
   |some .yz=>some (σ.set id (.arr k' e (es.set j (.agg (cs.set q (.sl σ.length 0 0 0)))))++[.arr k 0 []])
   |_=>none)
  |some .yz=>if q=0 then some (σ.set id (.arr k' e (es.set j (.sl σ.length 0 0 0)))++[.arr k 0 []]) else none
  |_=>none) else none
 |_=>none
def AI(id ep k:Nat):Nat→ah→Option ah
 |0,σ=>some σ
 |n+1,σ=>(AI id ep k n σ).bind fun σ'=>Dm id ep n 0 k σ'
def Io(p:aa)(off k:Nat)(σ:ah):Option ah:=
 match p with
 |.ptr id ep j o=>Dm id ep j (o+off) k σ
 |.sl id ep o n=>if off=999 then (if o=0 then AI id ep k n σ else none) else Dm id ep (o+off) 0 k σ
 |_=>none
def exec(C:ec)(n:Nat):ai→St→Option (Ex×St)
 |.skip,s=>some (.nrm,s)
 |.reg ops os,s=>(ib C s.env ops [] s.st).map fun r=>(.nrm,⟨nQ s.env s.env r.1 os,r.2⟩)
 |.regd ops os chk,s=>(pO C s.env ops [] [] s.st).bind fun r=>(mg C s.env r.1 ops (r.2.1++[r.2.2]) chk).map fun _=>(.nrm,⟨nQ s.env s.env r.1 os,r.2.2⟩)
 |.seq a b,s=>(exec C n a s).bind fun r=>match r.1 with
  |.nrm=>exec C n b r.2
  |e=>some (e,r.2)
 |.cond c a b,s=>match c.eval s.env [] with
  |.bool true=>exec C n a s
  |.bool false=>exec C n b s
  |_=>none
 |.blk id b,s=>(exec C n b s).map fun r=>match r.1 with
  |.ext j=>if j=id then (.nrm,r.2) else r
  |_=>r
 |.loop clr b,s=>mN s.st.length clr (exec C n b) n ⟨clear s.env clr,s.st⟩
 |.exit id,s=>some (.ext id,s)
 |.ret,s=>some (.ret,s)
 |.rng m f site,s=>
  let l:=s.st.length
  if s.env.length=m then
   (IA C (f.eval s.env []) [.yld l site s.env] (s.st++[.pend false none])).bind fun r=>tM l s.env r.2
  else none
 |.scope b,s=>exec C n b s
 |.lift i off k b,s=>(Io (kr s.env i) off k s.st).bind fun σ=>exec C n b ⟨s.env,σ⟩
def MB(s:St):Q2→Option aa
 |.env i=>some (kr s.env i)
 |.cell a n i=>loadAt a n (kr s.env i) s.st
def xz(s:St):List Q2→Option (List aa)
 |[]=>some []
 |r::rs=>(MB s r).bind fun v=>(xz s rs).map (v::·)
def results(s:St)(l:List Q2):Option aa:=(xz s l).map fun vs=>match vs with
 |[v]=>v
 |vs=>.tup vs
def JF(k:Nat)(l l':List aa):aa:=if l'.map aw=l.map aw then .frs k l' else .any
def ig(k:Nat)(σ:ah)(v:aa):aa:=
 match v with
 |.yz=>.frs k []
 |.sl id ep off len=>match σ[id]? with
  |some (.arr k' e es)=>if k'=k∧e=ep∧off=0∧len≤es.length then JF k (es.take len) ((es.take len).map (jj (σ.set id .dead))) else .any
  |_=>.any
 |_=>.any
def yU(σ:ah):aa→ah
 |.sl id ..=>σ.set id .dead
 |_=>σ
def fo(m:Bq)(σ:ah)(s:St)(v:aa):aa×ah:=
 match m with
 |.pure=>(jj s.st v,σ)
 |.fresh k=>(match v with
  |.tup (x::vs)=>.tup (ig k s.st x::vs.map (jj (yU s.st x)))
  |x=>ig k s.st x,σ)
 |.keep=>(v,s.st)
 |.trunc=>if s.st.length=σ.length then (v,s.st) else (aZ σ.length s.st v,(s.st.take σ.length).map (ap σ.length s.st))
def enter(f:aD)(args:List aa)(σ:ah):St:=
 match f.mode with
 |.pure|.fresh _=>⟨(args.take f.np).map (dW σ)++List.replicate (f.nenv-f.np) .any,[]⟩
 |_=>⟨args.take f.np++List.replicate (f.nenv-f.np) .any,σ⟩
def lP(f:aD)(σ:ah)(r:Ex×St):Option (aa×ah):=
 match r.1 with
 |.ext _=>none
 |_=>(results r.2 f.res).map fun v=>fo f.mode σ r.2 v
def pP(C:ec)(n:Nat)(g:aD)(args:List aa)(σ:ah):Option (aa×ah):=
 (exec C n g.body (enter g args σ)).bind (lP g σ)
def rY(env:List aa):List Nat→List aa→List aa
 |p::ps,a::es0=>rY (env.set p a) ps es0
 |_,_=>env
structure Code where
 fns:Nat→gG
 prims:Nat→akI
def iz(l:Nat)(r:Ex×St):Option (aa×ah):=
 match r.2.st[l]? with
 |some (.pend true none)=>
  match r.1 with
  |.nrm=>some (.bool true,r.2.st.set l (.pend false none))
  |e=>some (.bool false,r.2.st.set l (.pend false (some e)))
 |_=>none
def lC(C:ec)(n l:Nat)(b:ai)(r:Ex×St):Option (aa×ah):=
 match r.1,r.2.st[l]? with
 |.nrm,some (.pend false none)=>(exec C n b ⟨r.2.env,r.2.st.set l (.pend true none)⟩).bind (iz l)
 |_,_=>none
def bJ(P:Code):Nat→ec
 |0=>fun _ _ _=>none
 |n+1=>fun f args σ=>match P.fns f with
  |.none=>none
  |.prim k=>P.prims k (bJ P n) args σ
  |.fn g=>pP (bJ P n) n g args σ
  |.nilfn g=>match args with
   |x::rest=>
    if eZ σ x then (pP (bJ P n) n g (.emp true::rest) σ).bind fun r=>(pP (bJ P n) n g (.emp false::rest) σ).bind fun q=>if same r.1 q.1&&oa r.2 q.2 then some r else none
    else pP (bJ P n) n g args σ
   |[]=>none
  |.round g=>match args with
   |.frs l _::rest=>
    match σ[l]? with
    |some (.pend false none)=>
     if (rest.drop g.nenv).length=g.params.length then
      (exec (bJ P n) n g.pre ⟨rY (rest.take g.nenv) g.params (rest.drop g.nenv),σ⟩).bind (lC (bJ P n) n l g.body)
     else none
    |_=>none
   |_=>none
end Go.AM
namespace Go.AM
set_option linter.unusedSectionVars false
section CT
variable {α β:Type}
def fF(F:Nat→Option α):Prop:=∀n r,F n=some r→F (n+1)=some r
open Classical in
noncomputable def CT(F:Nat→Option α):Option α:=if h:∃n r,F n=some r then F (Classical.choose h) else none
theorem fF.le{F:Nat→Option α}(h:fF F){n m:Nat}(hm:n≤m){r:α}(hr:F n=some r):F m=some r:=by
 induction hm with
 |refl=>exact hr
 |step _ ih=>exact h _ _ ih
theorem kW{F:Nat→Option α}(h:fF F)(r:α):CT F=some r↔∃n,F n=some r:=by
 unfold CT;constructor
 ·split
  ·exact fun hr=>⟨_,hr⟩
  intro hr;cases hr
 rintro⟨n,hn⟩;have hx:∃n r,F n=some r:=⟨n,r,hn⟩;rw[dif_pos hx];obtain⟨r',hr'⟩:=avd hx;have h1:=h.le (avV n (Classical.choose hx)) hn;have h2:=h.le (avP n (Classical.choose hx)) hr';rw[h1]at h2;cases h2;exact hr'
theorem Hq{F:Nat→Option α}(h:fF F){n:Nat}{r:α}(hr:F n=some r):CT F=some r:=(kW h r).2 ⟨n,hr⟩
theorem Bt{a b:Option α}(h:∀r,a=some r↔b=some r):a=b:=by
 cases a with
 |none=>cases b with
  |none=>rfl
  |some y=>exact absurd ((h y).2 rfl) (by simp)
 |some x=>exact ((h x).1 rfl).symm
theorem fF.const(x:Option α):fF fun _=>x:=fun _ _ h=>h
theorem aL(x:Option α):CT (fun _=>x)=x:=Bt fun r=>by rw[kW (fF.const x)];exact⟨fun ⟨_,h⟩=>h,fun h=>⟨0,h⟩⟩
theorem fF.bind{F:Nat→Option α}{G:α→Nat→Option β}(hF:fF F)(hG:∀x,fF (G x)):fF fun n=>(F n).bind fun x=>G x n:=by
 intro n r h;simp only[agx]at h ⊢;obtain⟨x,hx,hr⟩:=h;exact⟨x,hF _ _ hx,hG _ _ _ hr⟩
theorem gH{F:Nat→Option α}{G:α→Nat→Option β}(hF:fF F)(hG:∀x,fF (G x)) :
  CT (fun n=>(F n).bind fun x=>G x n)=(CT F).bind fun x=>CT (G x):=by
 refine Bt fun r=>?_;rw[kW (hF.bind hG)];simp only[agx];constructor
 ·rintro⟨n,x,hx,hr⟩;exact⟨x,Hq hF hx,Hq (hG x) hr⟩
 rintro⟨x,hx,hr⟩;obtain⟨n,hn⟩:=(kW hF x).1 hx;obtain⟨m,hm⟩:=(kW (hG x) r).1 hr;exact⟨max n m,x,hF.le (avV n m) hn,(hG x).le (avP n m) hm⟩
theorem fF.map{F:Nat→Option α}(g:α→β)(hF:fF F):fF fun n=>(F n).map g:=by
 intro n r h;simp only[aiu]at h ⊢;obtain⟨x,hx,hr⟩:=h;exact⟨x,hF _ _ hx,hr⟩
theorem Ap{F:Nat→Option α}(g:α→β)(hF:fF F):CT (fun n=>(F n).map g)=(CT F).map g:=by
 refine Bt fun r=>?_;rw[kW (hF.map g)];simp only[aiu];constructor
 ·rintro⟨n,x,hx,hr⟩;exact⟨x,Hq hF hx,hr⟩
 rintro⟨x,hx,hr⟩;obtain⟨n,hn⟩:=(kW hF x).1 hx;exact⟨n,x,hn,hr⟩
theorem fF.shift{F:Nat→Option α}(hF:fF F):fF fun n=>F (n+1):=fun n r h=>hF _ _ h
theorem Dk{F:Nat→Option α}(hF:fF F):CT (fun n=>F (n+1))=CT F:=by
 refine Bt fun r=>?_;rw[kW hF.shift,kW hF];exact⟨fun ⟨n,h⟩=>⟨n+1,h⟩,fun ⟨n,h⟩=>⟨n,hF _ _ h⟩⟩
end CT
def Zf(C D:ec):Prop:=∀f args σ r,C f args σ=some r→D f args σ=some r
theorem qM{C D:ec}(h:Zf C D){env ls:List aa}{σ:ah}{o:F4}{r:aa×ah}(hr:aN C env ls σ o=some r) :
  aN D env ls σ o=some r:=by
 cases o
 case call f args mat=>
  simp only[aN,aiu]at hr ⊢;obtain⟨x,hx,rfl⟩:=hr;exact⟨x,h _ _ _ _ hx,rfl⟩
 case callv f args=>
  simp only[aN,aiu]at hr ⊢;obtain⟨x,hx,rfl⟩:=hr;refine⟨x,?_,rfl⟩;unfold qK at hx ⊢;split at hx
  ·exact h _ _ _ _ hx
  ·split at hx
   ·rename_i hp;rw[if_pos hp];exact h _ _ _ _ hx
   cases hx
  cases hx
 all_goals exact hr
theorem ow{C D:ec}(h:Zf C D){env:List aa}:∀{is:List aU} {ls:List aa} {σ:ah} {r:List aa×ah},
  ib C env is ls σ=some r→ib D env is ls σ=some r
 |[],_,_,_,hr=>hr
 |i::is,ls,σ,r,hr=>by
  simp only[ib]at hr ⊢;cases hw:wanted env ls i.guard with
  |none=>rw[hw]at hr;cases hr
  |some t=>
   rw[hw]at hr;cases t with
   |false=>exact ow h hr
   |true=>
    simp only[agx]at hr ⊢;obtain⟨q,hq,hr⟩:=hr;exact⟨q,qM h hq,ow h hr⟩
theorem ta{C D:ec}(h:Zf C D){env:List aa}:∀{is:List aU} {ls:List aa} {ss:List ah} {σ:ah} {r:List aa×List ah×ah},
  pO C env is ls ss σ=some r→pO D env is ls ss σ=some r
 |[],_,_,_,_,hr=>hr
 |i::is,ls,ss,σ,r,hr=>by
  simp only[pO]at hr ⊢;cases hw:wanted env ls i.guard with
  |none=>rw[hw]at hr;cases hr
  |some t=>
   rw[hw]at hr;cases t with
   |false=>exact ta h hr
   |true=>
    simp only[agx]at hr ⊢;obtain⟨q,hq,hr⟩:=hr;exact⟨q,qM h hq,ta h hr⟩
theorem vJ{C D:ec}(h:Zf C D){env ls:List aa}{ops:List aU}{ss:List ah}:∀{l:List (Nat×Nat)} {r:Unit},mg C env ls ops ss l=some r→mg D env ls ops ss l=some r
 |[],_,hr=>hr
 |(n,j)::l,r,hr=>by
  simp only[mg]at hr ⊢;split at hr
  ·rw[agx]at hr ⊢;obtain⟨q,hq,hr⟩:=hr;refine⟨q,qM h hq,?_⟩;split at hr
   ·rename_i hc;rw[if_pos hc];exact vJ h hr
   cases hr
  cases hr
theorem pj{base:Nat}{clr:List Nat}{f g:St→Option (Ex×St)}(h:∀s r,f s=some r→g s=some r) :
  ∀{n m:Nat} {s:St} {r:Ex×St},n≤m→mN base clr f n s=some r→mN base clr g m s=some r
 |0,_,_,_,_,hr=>by cases hr
 |n+1,0,_,_,hm,_=>by omega
 |n+1,m+1,s,r,hm,hr=>by
  simp only[mN,agx]at hr ⊢;obtain⟨⟨e,q⟩,hx,hr⟩:=hr;refine⟨(e,q),h _ _ hx,?_⟩;cases e with
  |nrm=>exact pj h (by omega) hr
  |ext _=>exact hr
  |ret=>exact hr
theorem eB{C D:ec}(h:Zf C D){n m:Nat}(hm:n≤m):∀{c:ai} {s:St} {r:Ex×St},exec C n c s=some r→exec D m c s=some r
 |.skip,_,_,hr=>hr
 |.exit _,_,_,hr=>hr
 |.ret,_,_,hr=>hr
 |.reg ops os,s,r,hr=>by
  simp only[exec,aiu]at hr ⊢;obtain⟨x,hx,rfl⟩:=hr;exact⟨x,ow h hx,rfl⟩
 |.seq a b,s,r,hr=>by
  simp only[exec,agx]at hr ⊢;obtain⟨⟨e,q⟩,hx,hr⟩:=hr;refine⟨(e,q),eB h hm hx,?_⟩;cases e with
  |nrm=>exact eB h hm hr
  |ext _=>exact hr
  |ret=>exact hr
 |.regd ops os chk,s,r,hr=>by
  simp only[exec]at hr ⊢;rw[agx]at hr ⊢;obtain⟨x,hx,hr⟩:=hr;refine⟨x,ta h hx,?_⟩;rw[aiu]at hr ⊢;obtain⟨y,hy,hr⟩:=hr;exact⟨y,vJ h hy,hr⟩
 |.cond c a b,s,r,hr=>by
  simp only[exec]at hr ⊢;split at hr
  ·exact eB h hm hr
  ·exact eB h hm hr
  cases hr
 |.blk id b,s,r,hr=>by
  simp only[exec,aiu]at hr ⊢;obtain⟨x,hx,rfl⟩:=hr;exact⟨x,eB h hm hx,rfl⟩
 |.loop clr b,s,r,hr=>by
  simp only[exec]at hr ⊢;exact pj (fun s r h'=>eB h hm h') hm hr
 |.scope b,s,r,hr=>by
  simp only[exec]at hr ⊢;exact eB h hm hr
 |.lift i off k b,s,r,hr=>by
  simp only[exec]at hr ⊢;rw[agx]at hr ⊢;obtain⟨x,hx,hr⟩:=hr;exact⟨x,hx,eB h hm hr⟩
 |.rng k f site,s,r,hr=>by
  simp only[exec]at hr ⊢;split at hr
  ·rename_i hk;rw[if_pos hk];rw[agx]at hr ⊢;obtain⟨x,hx,hr⟩:=hr;refine⟨x,?_,hr⟩;unfold IA at hx ⊢;split at hx<;>first|exact h _ _ _ _ hx|cases hx
  cases hr
theorem px{C D:ec}(h:Zf C D){n m:Nat}(hm:n≤m){g:aD}{args:List aa}{σ:ah}{r:aa×ah}(hr:pP C n g args σ=some r):pP D m g args σ=some r:=by
 unfold pP at hr ⊢;rw[agx]at hr ⊢;obtain⟨x,hx,hr⟩:=hr;exact⟨x,eB h hm hx,hr⟩
theorem BE{C D:ec}(h:Zf C D){n m:Nat}(hm:n≤m){l:Nat}{b:ai}{q:Ex×St}{r:aa×ah}(hr:lC C n l b q=some r):lC D m l b q=some r:=by
 unfold lC at hr ⊢;split at hr
 ·rename_i h1 h2;rw[agx]at hr ⊢;obtain⟨x,hx,hr⟩:=hr;exact⟨x,eB h hm hx,hr⟩
 cases hr
def Code.Good(P:Code):Prop:=∀k C D args σ r,Zf C D→P.prims k C args σ=some r→P.prims k D args σ=some r
theorem dM{P:Code}(hP:P.Good):∀n,Zf (bJ P n) (bJ P (n+1))
 |0=>fun _ _ _ _ h=>by cases h
 |n+1=>fun f args σ r h=>by
  have ih:=dM hP n;simp only[bJ]at h ⊢;split at h
  ·cases h
  ·exact hP _ _ _ _ _ _ ih h
  ·exact px ih (atB n) h
  ·split at h
   ·split at h
    ·rename_i hc;rw[if_pos hc];rw[agx]at h ⊢;obtain⟨x,hx,hr⟩:=h;refine⟨x,px ih (atB n) hx,?_⟩;rw[agx]at hr ⊢;obtain⟨y,hy,hr⟩:=hr;exact⟨y,px ih (atB n) hy,hr⟩
    rename_i hc;rw[if_neg hc];exact px ih (atB n) h
   cases h
  split at h
  ·split at h
   ·split at h
    ·rename_i hl;rw[if_pos hl];rw[agx]at h ⊢;obtain⟨x,hx,hr⟩:=h;exact⟨x,eB ih (atB n) hx,BE ih (atB n) hr⟩
    cases h
   cases h
  cases h
theorem ez{P:Code}(hP:P.Good)(f:Nat)(args:List aa)(σ:ah):fF fun n=>bJ P n f args σ:=
 fun n r h=>dM hP n f args σ r h
noncomputable def bK(P:Code)(f:Nat)(args:List aa)(σ:ah):Option (aa×ah):=CT fun n=>bJ P n f args σ
noncomputable def run(P:Code)(c:ai)(s:St):Option (Ex×St):=CT fun n=>exec (bJ P n) n c s
noncomputable def jF(P:Code)(env:List aa)(is:List aU)(ls:List aa)(σ:ah):Option (List aa×ah):=
 CT fun n=>ib (bJ P n) env is ls σ
noncomputable def step(P:Code)(env ls:List aa)(σ:ah)(o:F4):Option (aa×ah):=CT fun n=>aN (bJ P n) env ls σ o
section eqs
variable {P:Code} (hP:P.Good)
include hP
theorem jv(c:ai)(s:St):fF fun n=>exec (bJ P n) n c s:=fun n _ h=>eB (dM hP n) (atB n) h
theorem PC(env:List aa)(is:List aU)(ls:List aa)(σ:ah):fF fun n=>ib (bJ P n) env is ls σ:=
 fun n _ h=>ow (dM hP n) h
theorem C4(env ls:List aa)(σ:ah)(o:F4):fF fun n=>aN (bJ P n) env ls σ o:=fun n _ h=>qM (dM hP n) h
theorem TQ(env ls:List aa)(σ:ah):jF P env [] ls σ=some (ls,σ):=aL _
theorem DJ(env:List aa)(i:aU)(is:List aU)(ls:List aa)(σ:ah) :
  jF P env (i::is) ls σ=match wanted env ls i.guard with
   |some true=>(step P env ls σ i.op).bind fun q=>jF P env is (ls++[q.1]) q.2
   |some false=>jF P env is (ls++[.tup []]) σ
   |none=>none:=by
 unfold jF;simp only[ib];cases wanted env ls i.guard with
 |none=>exact aL _
 |some t=>cases t with
  |false=>rfl
  |true=>exact gH (G:=fun q n=>ib (bJ P n) env is (ls++[q.1]) q.2) (C4 hP _ _ _ _) fun x=>PC hP _ _ _ _
theorem XB(env ls:List aa)(σ:ah)(f:Nat)(args:List bp)(mat:Bool) :
  step P env ls σ (.call f args mat)=(bK P f (args.map (·.eval env ls)) σ).map (mater mat):=by
 unfold step bK;simp only[aN];exact Ap _ (ez hP _ _ _)
noncomputable def du(P:Code)(f:aa)(args:List aa)(σ:ah):Option (aa×ah):=
 match f with
 |.fn f first cap=>bK P f (first++args++cap) σ
 |.yld l site env=>if sT σ l then bK P site (.frs l []::env++args) σ else none
 |_=>none
theorem Xy(f:aa)(args:List aa)(σ:ah):CT (fun n=>qK (bJ P n) f args σ)=du P f args σ:=by
 cases f
 case yld l site env=>
  simp only[qK,du];cases sT σ l
  ·exact aL _
  rfl
 all_goals first|rfl|exact aL _
theorem T3(f:aa)(args:List aa)(σ:ah):fF fun n=>qK (bJ P n) f args σ:=by
 intro n r h;unfold qK at h ⊢;split at h
 ·exact dM hP n _ _ _ _ h
 ·split at h
  ·rename_i hp;dsimp only;rw[if_pos hp];exact dM hP n _ _ _ _ h
  cases h
 cases h
noncomputable def LY(P:Code)(f:aa)(args:List aa)(σ:ah):Option (aa×ah):=
 match f with
 |.fn f first cap=>bK P f (first++args++cap) σ
 |_=>none
theorem X6(f:aa)(args:List aa)(σ:ah):CT (fun n=>IA (bJ P n) f args σ)=LY P f args σ:=by
 cases f<;>first|rfl|exact aL _
theorem Uk(f:aa)(args:List aa)(σ:ah):fF fun n=>IA (bJ P n) f args σ:=by
 intro n r h;unfold IA at h ⊢;split at h
 ·exact dM hP n _ _ _ _ h
 cases h
theorem Sw(env ls:List aa)(σ:ah)(f:bp)(args:List bp) :
  step P env ls σ (.callv f args)=(du P (f.eval env ls) (args.map (·.eval env ls)) σ).map (mater false):=by
 unfold step;simp only[aN];rw[Ap _ (T3 hP _ _ _),Xy hP]
theorem acs(s:St):run P .skip s=some (.nrm,s):=aL _
theorem acE(id:Nat)(s:St):run P (.exit id) s=some (.ext id,s):=aL _
theorem ae6(s:St):run P .ret s=some (.ret,s):=aL _
theorem ael(is:List aU)(os:List (Nat×bp))(s:St) :
  run P (.reg is os) s=(jF P s.env is [] s.st).map fun r=>(.nrm,⟨nQ s.env s.env r.1 os,r.2⟩):=by
 unfold run jF;simp only[exec];exact Ap _ (PC hP _ _ _ _)
noncomputable def yV(P:Code)(env:List aa)(is:List aU)(ls:List aa)(ss:List ah)(σ:ah):Option (List aa×List ah×ah):=
 CT fun n=>pO (bJ P n) env is ls ss σ
theorem Zo(env:List aa)(is:List aU)(ls:List aa)(ss:List ah)(σ:ah):fF fun n=>pO (bJ P n) env is ls ss σ:=
 fun n _ h=>ta (dM hP n) h
theorem abz(env ls:List aa)(ss:List ah)(σ:ah):yV P env [] ls ss σ=some (ls,ss,σ):=aL _
theorem JN(env:List aa)(i:aU)(is:List aU)(ls:List aa)(ss:List ah)(σ:ah) :
  yV P env (i::is) ls ss σ=match wanted env ls i.guard with
   |some true=>(step P env ls σ i.op).bind fun q=>yV P env is (ls++[q.1]) (ss++[σ]) q.2
   |some false=>yV P env is (ls++[.tup []]) (ss++[σ]) σ
   |none=>none:=by
 unfold yV;simp only[pO];cases wanted env ls i.guard with
 |none=>exact aL _
 |some t=>cases t with
  |false=>rfl
  |true=>exact gH (G:=fun q n=>pO (bJ P n) env is (ls++[q.1]) (ss++[σ]) q.2) (C4 hP _ _ _ _) fun x=>Zo hP _ _ _ _ _
noncomputable def nB(P:Code)(env ls:List aa)(ops:List aU)(ss:List ah)(l:List (Nat×Nat)):Option Unit:=CT fun n=>mg (bJ P n) env ls ops ss l
theorem Hj(env ls:List aa)(ops:List aU)(ss:List ah)(l:List (Nat×Nat)):fF fun n=>mg (bJ P n) env ls ops ss l:=fun n _ h=>vJ (dM hP n) h
theorem Ty(env ls:List aa)(ops:List aU)(ss:List ah):nB P env ls ops ss []=some ():=aL _
theorem Ox(env ls:List aa)(ops:List aU)(ss:List ah)(n j:Nat)(l:List (Nat×Nat)) :
  nB P env ls ops ss ((n,j)::l)=match ops[n]?,ss[j]? with
   |some i,some τ=>(step P env (ls.take n) τ i.op).bind fun q=>if same q.1 (kr ls n)&&oa q.2 τ then nB P env ls ops ss l else none
   |_,_=>none:=by
 unfold nB;simp only[mg];cases ops[n]? with
 |none=>exact aL _
 |some i=>cases ss[j]? with
  |none=>exact aL _
  |some τ=>
   dsimp only;rw[gH (G:=fun q k=>if same q.1 (kr ls n)&&oa q.2 τ then mg (bJ P k) env ls ops ss l else none) (C4 hP _ _ _ _) fun q=>?_]
   ·unfold step;congr 1;funext q;split
    ·rfl
    exact aL _
   split
   ·exact Hj hP _ _ _ _ _
   exact fF.const _
theorem aab(is:List aU)(os:List (Nat×bp))(chk:List (Nat×Nat))(s:St) :
  run P (.regd is os chk) s=(yV P s.env is [] [] s.st).bind fun r=>(nB P s.env r.1 is (r.2.1++[r.2.2]) chk).map fun _=>(.nrm,⟨nQ s.env s.env r.1 os,r.2.2⟩):=by
 unfold run yV nB;simp only[exec];rw[gH (G:=fun r n=>(mg (bJ P n) s.env r.1 is (r.2.1++[r.2.2]) chk).map fun _=>(Ex.nrm,(⟨nQ s.env s.env r.1 os,r.2.2⟩:St))) (Zo hP _ _ _ _ _) fun r=>fF.map _ (Hj hP _ _ _ _ _)];congr 1;funext r;exact Ap _ (Hj hP _ _ _ _ _)
theorem afn(a b:ai)(s:St) :
  run P (.seq a b) s=(run P a s).bind fun r=>match r.1 with
   |.nrm=>run P b r.2
   |e=>some (e,r.2):=by
 unfold run;simp only[exec];rw[gH (jv hP a s) (fun r=>?_)]
 ·congr 1;funext r;cases r.1 with
  |nrm=>rfl
  |ext id=>exact aL _
  |ret=>exact aL _
 cases r.1 with
 |nrm=>exact jv hP _ _
 |ext id=>exact fF.const _
 |ret=>exact fF.const _
theorem ZI(c:bp)(a b:ai)(s:St) :
  run P (.cond c a b) s=match c.eval s.env [] with
   |.bool true=>run P a s
   |.bool false=>run P b s
   |_=>none:=by
 unfold run;simp only[exec];generalize c.eval s.env []=v;cases v with
 |bool b=>cases b<;>rfl
 |_=>exact aL _
theorem aex(id:Nat)(b:ai)(s:St) :
  run P (.blk id b) s=(run P b s).map fun r=>match r.1 with
   |.ext j=>if j=id then (.nrm,r.2) else r
   |_=>r:=by
 unfold run;simp only[exec];exact Ap _ (jv hP _ _)
theorem YZ(b:ai)(s:St):run P (.scope b) s=run P b s:=by
 unfold run;simp only[exec]
theorem Z5(i off k:Nat)(b:ai)(s:St):run P (.lift i off k b) s=(Io (kr s.env i) off k s.st).bind fun σ=>run P b ⟨s.env,σ⟩:=by
 unfold run;simp only[exec];cases Io (kr s.env i) off k s.st with
 |none=>exact aL _
 |some σ=>rfl
theorem afw(k:Nat)(f:bp)(site:Nat)(s:St) :
  run P (.rng k f site) s=if s.env.length=k then (LY P (f.eval s.env []) [.yld s.st.length site s.env] (s.st++[.pend false none])).bind fun r=>tM s.st.length s.env r.2 else none:=by
 unfold run;simp only[exec];split
 ·rw[gH (Uk hP _ _ _) (fun r=>fF.const _),X6 hP];congr 1;funext r;exact aL _
 exact aL _
noncomputable def aM(P:Code)(base:Nat)(clr:List Nat)(b:ai)(s:St):Option (Ex×St):=
 CT fun n=>mN base clr (exec (bJ P n) n b) n s
theorem uV(base:Nat)(clr:List Nat)(b:ai)(s:St):fF fun n=>mN base clr (exec (bJ P n) n b) n s:=
 fun n _ h=>pj (fun _ _ h'=>eB (dM hP n) (atB n) h') (atB n) h
theorem ZL(clr:List Nat)(b:ai)(s:St):run P (.loop clr b) s=aM P s.st.length clr b ⟨clear s.env clr,s.st⟩:=by
 unfold run aM;simp only[exec]
theorem xB(base:Nat)(clr:List Nat)(b:ai)(s:St) :
  aM P base clr b s=(run P b s).bind fun r=>match r.1 with
   |.nrm=>aM P base clr b (ar base clr r.2)
   |e=>some (e,r.2):=by
 have h1:aM P base clr b s=CT fun n=>(exec (bJ P n) n b s).bind fun r=>match r.1 with
   |.nrm=>mN base clr (exec (bJ P n) n b) n (ar base clr r.2)
   |e=>some (e,r.2):=by
  refine Bt fun q=>?_;have hm:fF fun n=>(exec (bJ P n) n b s).bind fun r=>match r.1 with
   |.nrm=>mN base clr (exec (bJ P n) n b) n (ar base clr r.2)
   |e=>some (e,r.2):=by
   refine fF.bind (G:=fun r n=>match r.1 with
    |.nrm=>mN base clr (exec (bJ P n) n b) n (ar base clr r.2)
    |e=>some (e,r.2)) (jv hP b s) fun r=>?_
   cases r.1 with
   |nrm=>exact uV hP _ _ _ _
   |ext id=>exact fF.const _
   |ret=>exact fF.const _
  rw[aM,kW (uV hP base clr b s),kW hm];constructor
  ·rintro⟨n,hn⟩;cases n with
   |zero=>cases hn
   |succ n=>
    refine⟨n+1,?_⟩;rw[mN,agx]at hn;obtain⟨⟨e,q⟩,hx,hr⟩:=hn;rw[agx];refine⟨(e,q),hx,?_⟩;cases e with
    |nrm=>exact pj (fun _ _ h=>h) (atB n) hr
    |ext _=>exact hr
    |ret=>exact hr
  rintro⟨n,hn⟩;refine⟨n+1,?_⟩;rw[agx]at hn;obtain⟨⟨e,q⟩,hx,hr⟩:=hn;rw[mN,agx];refine⟨(e,q),eB (dM hP n) (atB n) hx,?_⟩;cases e with
  |nrm=>exact pj (fun _ _ h=>eB (dM hP n) (atB n) h) (aes n) hr
  |ext _=>exact hr
  |ret=>exact hr
 rw[h1];rw[gH (G:=fun r n=>match r.1 with
   |.nrm=>mN base clr (exec (bJ P n) n b) n (ar base clr r.2)
   |e=>some (e,r.2)) (jv hP b s) (fun r=>?_)]
 ·unfold run;congr 1;funext r;cases r.1 with
  |nrm=>rfl
  |ext id=>exact aL _
  |ret=>exact aL _
 cases r.1 with
 |nrm=>exact uV hP _ _ _ _
 |ext id=>exact fF.const _
 |ret=>exact fF.const _
theorem vg{f:Nat}{g:aD}(h:P.fns f=.fn g)(args:List aa)(σ:ah) :
  bK P f args σ=(run P g.body (enter g args σ)).bind (lP g σ):=by
 unfold bK;rw[←Dk (ez hP _ _ _)];simp only[bJ,h,pP];rw[gH (jv hP _ _) (fun _=>fF.const _)];unfold run;congr 1;funext r;exact aL _
theorem RU(g:aD)(args:List aa)(σ:ah):fF fun n=>pP (bJ P n) n g args σ:=fun n _ h=>px (dM hP n) (atB n) h
noncomputable def g9(P:Code)(g:aD)(args:List aa)(σ:ah):Option (aa×ah):=(run P g.body (enter g args σ)).bind (lP g σ)
theorem BO(g:aD)(args:List aa)(σ:ah):CT (fun n=>pP (bJ P n) n g args σ)=g9 P g args σ:=by
 unfold pP g9;rw[gH (jv hP _ _) (fun _=>fF.const _)];unfold run;congr 1;funext r;exact aL _
theorem gm{f:Nat}{g:aD}(h:P.fns f=.nilfn g)(x:aa)(rest:List aa)(σ:ah) :
  bK P f (x::rest) σ=if eZ σ x then (g9 P g (.emp true::rest) σ).bind fun r=>(g9 P g (.emp false::rest) σ).bind fun q=>if same r.1 q.1&&oa r.2 q.2 then some r else none
   else g9 P g (x::rest) σ:=by
 unfold bK;rw[←Dk (ez hP _ _ _)];simp only[bJ,h];generalize eZ σ x=v;cases v with
 |false=>exact BO hP _ _ _
 |true=>
   simp only[aml];rw[gH (G:=fun r n=>(pP (bJ P n) n g (.emp false::rest) σ).bind fun q=>if same r.1 q.1&&oa r.2 q.2 then some r else none) (RU hP _ _ _) (fun r=>fF.bind (RU hP _ _ _) fun q=>fF.const _),BO hP];congr 1;funext r;rw[gH (RU hP _ _ _) (fun q=>fF.const _),BO hP];congr 1;funext q;exact aL _
noncomputable def pm(P:Code)(l:Nat)(b:ai)(r:Ex×St):Option (aa×ah):=
 match r.1,r.2.st[l]? with
 |.nrm,some (.pend false none)=>(run P b ⟨r.2.env,r.2.st.set l (.pend true none)⟩).bind (iz l)
 |_,_=>none
theorem SM(l:Nat)(b:ai)(r:Ex×St):fF fun n=>lC (bJ P n) n l b r:=fun n _ h=>BE (dM hP n) (atB n) h
theorem YJ(l:Nat)(b:ai)(r:Ex×St):CT (fun n=>lC (bJ P n) n l b r)=pm P l b r:=by
 unfold lC pm;obtain⟨e,env,σ⟩:=r;cases e with
 |ext _=>exact aL _
 |ret=>exact aL _
 |nrm=>
  dsimp only;generalize σ[l]?=v;have key:CT (fun n=>(exec (bJ P n) n b ⟨env,σ.set l (.pend true none)⟩).bind (iz l))=(run P b ⟨env,σ.set l (.pend true none)⟩).bind (iz l):=by
   rw[gH (jv hP _ _) (fun _=>fF.const _)];unfold run;congr 1;funext q;exact aL _
  cases v with
  |none=>exact aL _
  |some o=>cases o with
   |pend b j=>cases b with
    |true=>exact aL _
    |false=>cases j with
     |none=>exact key
     |some _=>exact aL _
   |_=>exact aL _
theorem DT{f:Nat}{g:vH}(h:P.fns f=.round g)(l:Nat)(e rest:List aa)(σ:ah) :
  bK P f (.frs l e::rest) σ=match σ[l]? with
   |some (.pend false none)=>if (rest.drop g.nenv).length=g.params.length then
     (run P g.pre ⟨rY (rest.take g.nenv) g.params (rest.drop g.nenv),σ⟩).bind (pm P l g.body)
    else none
   |_=>none:=by
 unfold bK;rw[←Dk (ez hP _ _ _)];simp only[bJ,h];generalize σ[l]?=v;have key:∀s':St,CT (fun n=>(exec (bJ P n) n g.pre s').bind (lC (bJ P n) n l g.body))=(run P g.pre s').bind (pm P l g.body):=fun s'=>by
  rw[gH (G:=fun r n=>lC (bJ P n) n l g.body r) (jv hP _ _) (fun r=>SM hP _ _ _)];unfold run;congr 1;funext r;exact YJ hP _ _ _
 cases v with
 |none=>exact aL _
 |some o=>cases o with
  |pend b j=>cases b with
   |true=>exact aL _
   |false=>cases j with
    |none=>
     dsimp only;split
     ·exact key _
     exact aL _
    |some e=>exact aL _
  |_=>exact aL _
theorem pk{f k n:Nat}(h:P.fns f=.prim k){args:List aa}{σ:ah}{r:aa×ah}(hr:P.prims k (bJ P n) args σ=some r) :
  bK P f args σ=some r:=by
 refine Hq (ez hP _ _ _) (n:=n+1) ?_;simp only[bJ,h];exact hr
end eqs
end Go.AM
namespace Go.AM
inductive Hd where
 |arr (k ep:Nat)
 |map
 |pend
 |dead
 deriving DecidableEq
def hd(σ:ah)(id:Nat):Hd:=match σ[id]? with
 |some (.arr k ep _)=>.arr k ep
 |some (.map _)=>.map
 |some (.pend _ _)=>.pend
 |some .dead=>.dead
 |none=>.dead
structure ia where
 fn:FuncId
 tmps:Array Value
 params:Array Tmp
 assign:Go.Code
 body:Go.Code
 defers:Nat
structure bv where
 sld:Nat→Prop
 bor:Nat→Prop
 H:Nat→Hd
 N:Nat
 place:Nat→Option Nat
 room:Nat→Nat
 loops:Nat→ia
def bv.still(c:bv)(b:Bool):bv:={ c with bor:=if b then c.bor else c.sld,H:=fun _=>.dead,N:=0 }
abbrev alc:=Nat→ia→List Nat→Prop
structure bw where
 fm:Nat→FuncId
 site:alc
 glob:Nat→Option aa
variable (M:bw) (w:World)
inductive R:bv→aa→Value→Prop
 |any {c v}:R c .any v
 |emp {c b cap} {a:Option Addr}:a.isNone=b→R c (.emp b) (.slice a 0 cap)
 |int {c k n}:R c (.int k n) (.int k n)
 |bool {c b}:R c (.bool b) (.bool b)
 |str {c s} {t:ByteArray}:t.data.toList=s→R c (.str s) (.string t)
 |nilp {c}:R c .nilp (.pointer none)
 |nilf {c}:R c .nilf .nilFunc
 |nilm {c}:R c .nilm (.map none)
 |agg {c cs} {vs:Array Value} (f:Nat→Value):vs.size=cs.length→(∀i (h:i<cs.length),vs[i]?=some (f i)∧(f i).oneCell'=true) →
   (∀i (h:i<cs.length),aw cs[i]≤1∧isAgg cs[i]=false)→(∀i (h:i<cs.length),R c cs[i] (f i))→R c (.agg cs) (.agg vs)
 |tup {c cs} {vs:Array Value} (f:Nat→Value):vs.size=cs.length→(∀i (h:i<cs.length),vs[i]?=some (f i)) →
   (∀i (h:i<cs.length),R c cs[i] (f i))→R c (.tup cs) (.tuple vs)
 |wh {c b xs cap} {a:Addr} (K:Nat) (f:Nat→Nat→Value):(if b then c.bor a.block else c.sld a.block)→a.spot=none→xs.length≤cap→K≠0 →
   (∀x∈xs,aw x=K)→(∀i j,i<xs.length→j<K→w.cell? ⟨a.block,a.off+i*K+j,none⟩=some (f i j)∧(f i j).oneCell'=true) →
   (∀i (hi:i<xs.length) j (hj:j<(cellsOf xs[i]).length),R (c.still b) (cellsOf xs[i])[j] (f i j))→R c (.wh b xs) (.slice (some a) xs.length cap)
 |imm0 {c b cap} {a:Option Addr}:R c (.wh b []) (.slice a 0 cap)
 |lst {c xs cap} {a:Addr} (K:Nat) (f:Nat→Nat→Value):c.sld a.block→a.spot=none→xs.length≤cap→K≠0 →
   (∀x∈xs,aw x=K)→(∀i j,i<xs.length→j<K→w.cell? ⟨a.block,a.off+i*K+j,none⟩=some (f i j)∧(f i j).oneCell'=true) →
   (∀i (hi:i<xs.length) j (hj:j<(cellsOf xs[i]).length),R c (cellsOf xs[i])[j] (f i j))→R c (.lst xs) (.slice (some a) xs.length cap)
 |lst0 {c cap} {a:Option Addr}:R c (.lst []) (.slice a 0 cap)
 |yz {c} {a:Option Addr}:R c .yz (.slice a 0 0)
 |sl {c id ep off len cap k blk}:id<c.N→c.H id=.arr k ep→c.place id=some blk→len≤cap→(off+cap)*k≤c.room id →
   R c (.sl id ep off len) (.slice (some ⟨blk,off*k,none⟩) len cap)
 |sl0 {c id ep off k} {a:Option Addr}:id<c.N→c.H id=.arr k ep→R c (.sl id ep off 0) (.slice a 0 0)
 |slOld {c id ep off len v}:v.oneCell'=true→id<c.N→(∀k e,c.H id=.arr k e→ep<e)→(c.H id≠.map)→(c.H id≠.pend)→R c (.sl id ep off len) v
 |ptr {c id ep i off k blk}:id<c.N→c.H id=.arr k ep→c.place id=some blk→R c (.ptr id ep i off) (.pointer (some ⟨blk,i*k+off,none⟩))
 |ptrOld {c id ep i off v}:v.oneCell'=true→id<c.N→(∀k e,c.H id=.arr k e→ep<e)→(c.H id≠.map)→(c.H id≠.pend)→R c (.ptr id ep i off) v
 |asl {c id ep i off n k blk}:id<c.N→c.H id=.arr k ep→c.place id=some blk→R c (.asl id ep i off n) (.slice (some ⟨blk,i*k+off,none⟩) n n)
 |aslOld {c id ep i off n v}:id<c.N→(∀k e,c.H id=.arr k e→ep<e)→(c.H id≠.map)→(c.H id≠.pend)→R c (.asl id ep i off n) v
 |cptr {c b x off} {o blk:Nat} (f:Nat→Value):(if b then c.bor blk else c.sld blk)→aw x≠0 →
   (∀j,j<aw x→w.cell? ⟨blk,o+j,none⟩=some (f j)∧(f j).oneCell'=true) →
   (∀j (hj:j<(cellsOf x).length),R (if b then c else c.still false) (cellsOf x)[j] (f j))→R c (.cptr b x off) (.pointer (some ⟨blk,o+off,none⟩))
 |fn {c n first cap} {fs cs:Array Value} (f g:Nat→Value):fs.size=first.length→cs.size=cap.length→(∀i (h:i<first.length),fs[i]?=some (f i))→(∀i (h:i<cap.length),cs[i]?=some (g i)) →
   (∀i (h:i<first.length),R c first[i] (f i))→(∀i (h:i<cap.length),R c cap[i] (g i))→R c (.fn n first cap) (.func (.func (M.fm n)) fs cs)
 |imap {c b es} {r clock:Nat} {en:Array MapEntry} (f g:Nat→Value):(if b then c.bor r else c.sld r)→w.heap[r]?=some (.map en clock)→en.size=es.length →
   (∀i (h:i<es.length),∃e,en[i]?=some e∧e.key=f i∧e.val=g i∧ng (es[i]).1=true)→(∀i (h:i<es.length),R (c.still b) (es[i]).1 (f i))→(∀i (h:i<es.length),R (c.still b) (es[i]).2 (g i)) →
   R c (.imap b es) (.map (some r))
 |mp {c id blk}:id<c.N→c.H id=.map→c.place id=some blk→R c (.mp id) (.map (some blk))
 |mpOld {c id v}:v.oneCell'=true→id<c.N→c.H id=.dead→R c (.mp id) v
 |yld {c l site env em blk} (f:Nat→Value):l<c.N→c.H l=.pend→c.place l=some blk→M.site site (c.loops l) em→em.length=env.length →
   (∀i (h:i<em.length) (hx:i<env.length),(c.loops l).tmps[em[i]]?=some (f i))→(∀i (hx:i<env.length),R c env[i] (f i))→R c (.yld l site env) (.func (.yield blk) #[] #[])
 |yldOld {c l site env v}:v.oneCell'=true→l<c.N→c.H l=.dead→R c (.yld l site env) v
def Hd.le:Hd→Hd→Prop
 |a,b=>a=b∨b=.dead∨(∃k e e',a=.arr k e∧b=.arr k e'∧e<e')
structure Ext (c:bv) (w:World) (c':bv) (w':World):Prop where
 sld:∀b,c.sld b→c'.sld b
 bor:∀b,c.bor b→c'.bor b
 rest:∀b,c.bor b∨c.sld b→w'.heap[b]?=w.heap[b]?
 N:c.N≤c'.N
 head:∀id,id<c.N→(c.H id).le (c'.H id)
 place:∀id,id<c.N→c.H id=c'.H id→c.H id≠.dead→c'.place id=c.place id∧c'.room id=c.room id∧c'.loops id=c.loops id
variable {M w}
theorem Ext.refl(c:bv)(w:World):Ext c w c w:=
 ⟨fun _ h=>h,fun _ h=>h,fun _ _=>rfl,aes _,fun _ _=>.inl rfl,fun _ _ _ _=>⟨rfl,rfl,rfl⟩⟩
theorem Hd.le_refl(a:Hd):a.le a:=.inl rfl
theorem Hd.le_dead{b:Hd}(h:Hd.le .dead b):b=.dead:=by
 rcases h with h|h|⟨k,e,e',h,_⟩
 ·exact h.symm
 ·exact h
 cases h
theorem Ext.still{c c':bv}{w w':World}(h:Ext c w c' w')(b:Bool):Ext (c.still b) w (c'.still b) w' where
 sld:=h.sld
 bor:=by
  intro x hx;cases b
  ·exact h.sld x hx
  exact h.bor x hx
 rest:=by
  intro x hx;cases b
  ·exact h.rest x (.inr (hx.elim id id))
  exact h.rest x hx
 N:=aes _
 head:=fun id hid=>absurd hid (art _)
 place:=fun id hid=>absurd hid (art _)
theorem oB{w w':World}{b:Nat}(h:w'.heap[b]?=w.heap[b]?)(off:Nat):w'.cell? ⟨b,off,none⟩=w.cell? ⟨b,off,none⟩:=by
 simp only[World.cell?,h]
theorem R.ext{c c':bv}{w':World}{v:aa}{x:Value}(h:R M w c v x)(he:Ext c w c' w'):R M w' c' v x:=by
 induction h generalizing c' with
 |any=>exact .any
 |emp h=>exact .emp h
 |int=>exact .int
 |bool=>exact .bool
 |str h=>exact .str h
 |nilp=>exact .nilp
 |nilf=>exact .nilf
 |nilm=>exact .nilm
 |agg f h1 h2 h3 _ ih=>exact .agg f h1 h2 h3 fun i hi=>ih i hi he
 |tup f h1 h2 _ ih=>exact .tup f h1 h2 fun i hi=>ih i hi he
 |@wh c b xs cap a K f h1 h2 h3 h4 h5 h6 _ ih=>
  have hr:w'.heap[a.block]?=w.heap[a.block]?:=he.rest _ (by cases b<;>simp at h1<;>simp[h1]);refine .wh K f ?_ h2 h3 h4 h5 (fun i j hi hj=>by rw[oB hr];exact h6 i j hi hj) fun i hi j hj=>ih i hi j hj (he.still b);cases b
  ·exact he.sld _ h1
  exact he.bor _ h1
 |imm0=>exact .imm0
 |@lst c xs cap a K f h1 h2 h3 h4 h5 h6 _ ih=>
  have hr:w'.heap[a.block]?=w.heap[a.block]?:=he.rest _ (.inr h1);exact .lst K f (he.sld _ h1) h2 h3 h4 h5 (fun i j hi hj=>by rw[oB hr];exact h6 i j hi hj) fun i hi j hj=>ih i hi j hj he
 |lst0=>exact .lst0
 |yz=>exact .yz
 |@sl c id ep off len cap k blk h1 h2 h3 h4 h5=>
  have hl:=he.head id h1;have hlt:=aju h1 he.N;by_cases hq:c.H id=c'.H id
  ·obtain⟨p1,p2,_⟩:=he.place id h1 hq (by rw[h2];simp);exact .sl hlt (hq▸h2) (p1▸h3) h4 (p2▸h5)
  rw[h2]at hl hq;rcases hl with hl|hl|⟨k',e,e',hl1,hl2,hl3⟩
  ·exact absurd hl hq
  ·exact .slOld rfl hlt (by rw[hl];simp) (by rw[hl];simp) (by rw[hl];simp)
  cases hl1;exact .slOld rfl hlt (by rw[hl2];rintro k e ⟨⟩;exact hl3) (by rw[hl2];simp) (by rw[hl2];simp)
 |@sl0 c id ep off k a h1 h2=>
  have hl:=he.head id h1;have hlt:=aju h1 he.N;rw[h2]at hl;rcases hl with hl|hl|⟨k',e,e',hl1,hl2,hl3⟩
  ·exact .sl0 hlt hl.symm
  ·exact .slOld rfl hlt (by rw[hl];simp) (by rw[hl];simp) (by rw[hl];simp)
  cases hl1;exact .slOld rfl hlt (by rw[hl2];rintro k e ⟨⟩;exact hl3) (by rw[hl2];simp) (by rw[hl2];simp)
 |@slOld c id ep off len v h0 h1 h2 h3 h4=>
  have hl:=he.head id h1;have hlt:=aju h1 he.N;refine .slOld h0 hlt ?_ ?_ ?_
  ·intro k e hk;rcases hl with hl|hl|⟨k',e1,e',hl1,hl2,hl3⟩
   ·exact h2 k e (hl▸hk)
   ·rw[hl]at hk;cases hk
   rw[hl2]at hk;cases hk;exact avw (h2 _ _ hl1) hl3
  ·rcases hl with hl|hl|⟨k',e1,e',hl1,hl2,hl3⟩
   ·rw[←hl];exact h3
   ·rw[hl];simp
   rw[hl2];simp
  rcases hl with hl|hl|⟨k',e1,e',hl1,hl2,hl3⟩
  ·rw[←hl];exact h4
  ·rw[hl];simp
  rw[hl2];simp
 |@ptr c id ep i off k blk h1 h2 h3=>
  have hl:=he.head id h1;have hlt:=aju h1 he.N;by_cases hq:c.H id=c'.H id
  ·obtain⟨p1,p2,_⟩:=he.place id h1 hq (by rw[h2];simp);exact .ptr hlt (hq▸h2) (p1▸h3)
  rw[h2]at hl hq;rcases hl with hl|hl|⟨k',e,e',hl1,hl2,hl3⟩
  ·exact absurd hl hq
  ·exact .ptrOld rfl hlt (by rw[hl];simp) (by rw[hl];simp) (by rw[hl];simp)
  cases hl1;exact .ptrOld rfl hlt (by rw[hl2];rintro k e ⟨⟩;exact hl3) (by rw[hl2];simp) (by rw[hl2];simp)
 |@ptrOld c id ep i off v h0 h1 h2 h3 h4=>
  have hl:=he.head id h1;have hlt:=aju h1 he.N;refine .ptrOld h0 hlt ?_ ?_ ?_
  ·intro k e hk;rcases hl with hl|hl|⟨k',e1,e',hl1,hl2,hl3⟩
   ·exact h2 k e (hl▸hk)
   ·rw[hl]at hk;cases hk
   rw[hl2]at hk;cases hk;exact avw (h2 _ _ hl1) hl3
  ·rcases hl with hl|hl|⟨k',e1,e',hl1,hl2,hl3⟩
   ·rw[←hl];exact h3
   ·rw[hl];simp
   rw[hl2];simp
  rcases hl with hl|hl|⟨k',e1,e',hl1,hl2,hl3⟩
  ·rw[←hl];exact h4
  ·rw[hl];simp
  rw[hl2];simp
 |@asl c id ep i off n k blk h1 h2 h3=>
  have hl:=he.head id h1;have hlt:=aju h1 he.N;by_cases hq:c.H id=c'.H id
  ·obtain⟨p1,p2,_⟩:=he.place id h1 hq (by rw[h2];simp);exact .asl hlt (hq▸h2) (p1▸h3)
  rw[h2]at hl hq;rcases hl with hl|hl|⟨k',e,e',hl1,hl2,hl3⟩
  ·exact absurd hl hq
  ·exact .aslOld hlt (by rw[hl];simp) (by rw[hl];simp) (by rw[hl];simp)
  cases hl1;exact .aslOld hlt (by rw[hl2];rintro k e ⟨⟩;exact hl3) (by rw[hl2];simp) (by rw[hl2];simp)
 |@aslOld c id ep i off n v h1 h2 h3 h4=>
  have hl:=he.head id h1;have hlt:=aju h1 he.N;refine .aslOld hlt ?_ ?_ ?_
  ·intro k e hk;rcases hl with hl|hl|⟨k',e1,e',hl1,hl2,hl3⟩
   ·exact h2 k e (hl▸hk)
   ·rw[hl]at hk;cases hk
   rw[hl2]at hk;cases hk;exact avw (h2 _ _ hl1) hl3
  ·rcases hl with hl|hl|⟨k',e1,e',hl1,hl2,hl3⟩
   ·rw[←hl];exact h3
   ·rw[hl];simp
   rw[hl2];simp
  rcases hl with hl|hl|⟨k',e1,e',hl1,hl2,hl3⟩
  ·rw[←hl];exact h4
  ·rw[hl];simp
  rw[hl2];simp
 |@cptr c b x off o blk f h1 h2 h3 _ ih=>
  have hr:w'.heap[blk]?=w.heap[blk]?:=he.rest _ (by cases b<;>simp at h1<;>simp[h1]);refine .cptr f ?_ h2 (fun j hj=>by rw[oB hr];exact h3 j hj) ?_
  ·cases b
   ·exact he.sld _ h1
   exact he.bor _ h1
  intro j hj;cases b
  ·exact ih j hj (he.still false)
  exact ih j hj he
 |fn f g h1 h2 h3 h4 _ _ ih1 ih2=>exact .fn f g h1 h2 h3 h4 (fun i hi=>ih1 i hi he) fun i hi=>ih2 i hi he
 |@imap c b es r clock en f g h1 h2 h3 h4 _ _ ih1 ih2=>
  have hr:w'.heap[r]?=w.heap[r]?:=he.rest _ (by cases b<;>simp at h1<;>simp[h1]);refine .imap f g ?_ (hr▸h2) h3 h4 (fun i hi=>ih1 i hi (he.still b)) fun i hi=>ih2 i hi (he.still b);cases b
  ·exact he.sld _ h1
  exact he.bor _ h1
 |@mp c id blk h1 h2 h3=>
  have hl:=he.head id h1;have hlt:=aju h1 he.N;rcases hl with hl|hl|⟨k',e,e',hl1,hl2,hl3⟩
  ·obtain⟨p1,p2,_⟩:=he.place id h1 hl (by rw[h2];simp);exact .mp hlt (hl▸h2) (p1▸h3)
  ·exact .mpOld rfl hlt hl
  rw[h2]at hl1;cases hl1
 |@mpOld c id v h0 h1 h2=>
  have hl:=he.head id h1;rw[h2]at hl;exact .mpOld h0 (aju h1 he.N) (Hd.le_dead hl)
 |@yld c l site env em blk f h1 h2 h3 h4 h5 h6 _ ih=>
  have hl:=he.head l h1;have hlt:=aju h1 he.N;rcases hl with hl|hl|⟨k',e,e',hl1,hl2,hl3⟩
  ·obtain⟨p1,_,p3⟩:=he.place l h1 hl (by rw[h2];simp);exact .yld f hlt (hl▸h2) (p1▸h3) (p3▸h4) h5 (p3▸h6) fun i hi=>ih i hi he
  ·exact .yldOld rfl hlt hl
  rw[h2]at hl1;cases hl1
 |@yldOld c l site env v h0 h1 h2=>
  have hl:=he.head l h1;rw[h2]at hl;exact .yldOld h0 (aju h1 he.N) (Hd.le_dead hl)
end Go.AM
namespace Go.AM
variable (M:bw) (w:World)
def pM:Ex→Option Go.Code
 |.nrm=>none
 |.ext id=>some (.exit id)
 |.ret=>some .ret
def mQ(r:ia)(st:LoopState)(p:Option Go.Code):Loop:=
 { state:=st,pending:=p,fn:=r.fn,tmps:=r.tmps,params:=r.params,assign:=r.assign,body:=r.body,defers:=r.defers }
def wg(c:bv)(id:Nat):Obj→Prop
 |.arr k _ es=>k≠0∧(∀x∈es,aw x=k)∧(c.place id=none→es=[])∧∀b,c.place id=some b →
   ∃(cs:Array Value) (T:TypeId) (f:Nat→Nat→Value),w.heap[b]?=some (.cells cs T (0,0))∧es.length*k≤cs.size∧c.room id=cs.size ∧
    (∀i j,i<es.length→j<k→cs[i*k+j]?=some (f i j)∧(f i j).oneCell'=true) ∧
    ∀i (hi:i<es.length) j (hj:j<(cellsOf es[i]).length),R M w c (cellsOf es[i])[j] (f i j)
 |.map es=>∃(b clock:Nat) (en:Array MapEntry) (f g:Nat→Value),c.place id=some b∧w.heap[b]?=some (.map en clock)∧en.size=es.length ∧
   (∀i (h:i<es.length),∃e,en[i]?=some e∧e.key=f i∧e.val=g i∧ng (es[i]).1=true) ∧
   (∀i (h:i<es.length),R M w c (es[i]).1 (f i))∧(∀i (h:i<es.length),R M w c (es[i]).2 (g i))
 |.pend busy j=>∃b,c.place id=some b ∧
   w.heap[b]?=some (.loop (match busy,j with
    |true,_=>mQ (c.loops id) .busy none
    |false,none=>mQ (c.loops id) .ready none
    |false,some e=>mQ (c.loops id) .done (pM e)))
 |.dead=>True
structure cO (c:bv) (σ:ah):Prop where
 H:c.H=hd σ
 N:c.N=σ.length
 sb:∀b,c.sld b→c.bor b
 low:∀b,c.bor b→b<w.heap.size
 plow:∀id b,c.H id≠.dead→c.place id=some b→b<w.heap.size∧¬c.bor b
 inj:∀i j b,c.H i≠.dead→c.H j≠.dead→c.place i=some b→c.place j=some b→i=j
 obj:∀id o,σ[id]?=some o→wg M w c id o
variable {M w}
theorem wg.ext{c c':bv}{w':World}{id:Nat}{o:Obj}(h:wg M w c id o)(he:Ext c w c' w')
  (hp:o≠.dead→c'.place id=c.place id∧c'.room id=c.room id∧c'.loops id=c.loops id) (hb:o≠.dead→∀b,c.place id=some b→w'.heap[b]?=w.heap[b]?):wg M w' c' id o:=by
 cases o with
 |dead=>trivial
 |arr k ep es=>
  obtain⟨h1,h2,h3,h4⟩:=h;obtain⟨p1,p2,_⟩:=hp (by simp);refine⟨h1,h2,fun hn=>h3 (p1▸hn),fun b hb'=>?_⟩;rw[p1]at hb';obtain⟨cs,T,f,q1,q2,q3,q4,q5⟩:=h4 b hb';exact⟨cs,T,f,by rw[hb (by simp) b hb'];exact q1,q2,p2▸q3,q4,fun i hi j hj=>(q5 i hi j hj).ext he⟩
 |map es=>
  obtain⟨b,cl,en,f,g,q1,q2,q3,q4,q5,q6⟩:=h;obtain⟨p1,p2,_⟩:=hp (by simp);exact⟨b,cl,en,f,g,p1▸q1,by rw[hb (by simp) b q1];exact q2,q3,q4,fun i hi=>(q5 i hi).ext he,fun i hi=>(q6 i hi).ext he⟩
 |pend bz j=>
  obtain⟨b,q1,q2⟩:=h;obtain⟨p1,_,p3⟩:=hp (by simp);exact⟨b,p1▸q1,by rw[hb (by simp) b q1,q2,p3]⟩
theorem cU{σ:ah}{id:Nat}{o:Obj}(h:σ[id]?=some o):hd σ id=match o with
  |.arr k ep _=>.arr k ep
  |.map _=>.map
  |.pend _ _=>.pend
  |.dead=>.dead:=by
 simp only[hd,h];cases o<;>rfl
theorem agr{σ:ah}{id:Nat}(h:hd σ id≠.dead):∃o,σ[id]?=some o∧o≠.dead:=by
 cases hs:σ[id]? with
 |none=>exact absurd (by unfold hd;rw[hs]) h
 |some o=>
  refine⟨o,rfl,fun ho=>?_⟩;subst ho;exact h (by unfold hd;rw[hs])
theorem DH{σ:ah}{id:Nat}(h:hd σ id≠.dead):id<σ.length:=by
 obtain⟨o,ho,_⟩:=agr h;exact (aaN.1 ho).1
theorem mI{σ:ah}{id:Nat}{o:Obj}(h:σ[id]?=some o):hd σ id=.dead↔o=.dead:=by
 rw[cU h];cases o<;>simp
theorem Ext.heap{c:bv}{w':World}(h:w'.heap=w.heap):Ext c w c w':=
 ⟨fun _ h=>h,fun _ h=>h,fun _ _=>by rw[h],aes _,fun _ _=>.inl rfl,fun _ _ _ _=>⟨rfl,rfl,rfl⟩⟩
theorem cO.heap{c:bv}{σ:ah}{w':World}(hs:cO M w c σ)(h:w'.heap=w.heap):cO M w' c σ:=
 ⟨hs.H,hs.N,hs.sb,by rw[h];exact hs.low,by rw[h];exact hs.plow,hs.inj,fun id o ho=>(hs.obj id o ho).ext (.heap h) (fun _=>⟨rfl,rfl,rfl⟩) fun _ b _=>by rw[h]⟩
theorem Ext.trans{c c' c'':bv}{w w' w'':World}(h:Ext c w c' w')(k:Ext c' w' c'' w''):Ext c w c'' w'' where
 sld:=fun b hb=>k.sld b (h.sld b hb)
 bor:=fun b hb=>k.bor b (h.bor b hb)
 rest:=fun b hb=>by rw[k.rest b (hb.imp (h.bor b) (h.sld b)),h.rest b hb]
 N:=als h.N k.N
 head:=fun id hid=>by
  have h1:=h.head id hid;have h2:=k.head id (aju hid h.N);rcases h1 with h1|h1|⟨q,e,e',a1,a2,a3⟩
  ·rw[h1];exact h2
  ·rw[h1]at h2;exact .inr (.inl (Hd.le_dead h2))
  rcases h2 with h2|h2|⟨q',f,f',b1,b2,b3⟩
  ·exact .inr (.inr ⟨q,e,e',a1,h2▸a2,a3⟩)
  ·exact .inr (.inl h2)
  rw[a2]at b1;cases b1;exact .inr (.inr ⟨q,e,f',a1,b2,avw a3 b3⟩)
 place:=fun id hid hq hd=>by
  have h1:=h.head id hid;have h2:=k.head id (aju hid h.N);have hm:c.H id=c'.H id:=by
   rcases h1 with h1|h1|⟨q,e,e',a1,a2,a3⟩
   ·exact h1
   ·rw[h1]at h2;rw[Hd.le_dead h2]at hq;exact absurd hq hd
   rcases h2 with h2|h2|⟨q',f,f',b1,b2,b3⟩
   ·rw[←h2,a1,a2]at hq;cases hq;exact absurd a3 (ato _)
   ·rw[h2]at hq;exact absurd hq hd
   rw[a2]at b1;cases b1;rw[a1,b2]at hq;cases hq;exact absurd (avw a3 b3) (ato _)
  obtain⟨p1,p2,p3⟩:=h.place id hid hm hd;obtain⟨r1,r2,r3⟩:=k.place id (aju hid h.N) (hm▸hq) (hm▸hd);exact⟨r1.trans p1,r2.trans p2,r3.trans p3⟩
def iH(w:World)(o:Go.Obj):World:={ w with heap:=w.heap.push o }
def bv.grow(c:bv)(σ:ah)(p:Option Nat)(room:Nat)(lp:ia):bv:=
 { c with H:=hd σ,N:=σ.length,place:=fun i=>if i=c.N then p else c.place i,room:=fun i=>if i=c.N then room else c.room i,loops:=fun i=>if i=c.N then lp else c.loops i }
theorem pe{σ:ah}{o:Obj}{id:Nat}(h:id<σ.length):hd (σ++[o]) id=hd σ id:=by
 unfold hd;rw[arw h]
theorem kc{σ:ah}{o:Obj}:(σ++[o])[σ.length]?=some o:=by simp
theorem Ext.grow{c:bv}{σ:ah}{w':World}(hs:cO M w c σ)(o:Obj)(p:Option Nat)(room:Nat)(lp:ia)(hw:∀b,b<w.heap.size→w'.heap[b]?=w.heap[b]?) :
  Ext c w (c.grow (σ++[o]) p room lp) w' where
 sld:=fun _ h=>h
 bor:=fun _ h=>h
 rest:=fun b hb=>hw b (hs.low b (hb.elim id (hs.sb b)))
 N:=by simp[bv.grow,hs.N]
 head:=fun id hid=>by rw[hs.N]at hid;simp only[bv.grow,hs.H];rw[pe hid];exact .inl rfl
 place:=fun id hid _ _=>by
  have:id≠c.N:=Nat.ne_of_lt hid;simp[bv.grow,this]
theorem cO.grow{c:bv}{σ:ah}{w':World}(hs:cO M w c σ)(o:Obj)(p:Option Nat)(room:Nat)(lp:ia)
  (hw:∀b,b<w.heap.size→w'.heap[b]?=w.heap[b]?) (hz:w.heap.size≤w'.heap.size) (hp:∀b,p=some b→w.heap.size≤b∧b<w'.heap.size)
  (hobj:wg M w' (c.grow (σ++[o]) p room lp) σ.length o):cO M w' (c.grow (σ++[o]) p room lp) (σ++[o]) where
 H:=rfl
 N:=rfl
 sb:=hs.sb
 low:=fun b hb=>aju (hs.low b hb) hz
 plow:=fun id b hd hb=>by
  simp only[bv.grow]at hd hb ⊢;split at hb
  ·obtain⟨h1,h2⟩:=hp b hb;exact⟨h2,fun hc=>absurd (hs.low b hc) (by omega)⟩
  rename_i hne;have hlt:id<σ.length:=by
   have:=DH hd;rw[hs.N]at hne;simp at this;omega
  rw[pe hlt,←hs.H]at hd;obtain⟨h1,h2⟩:=hs.plow id b hd hb;exact⟨aju h1 hz,h2⟩
 inj:=fun i j b hi hj hbi hbj=>by
  simp only[bv.grow]at hi hj hbi hbj;have key:∀i,hd (σ++[o]) i≠.dead→i≠c.N→c.H i≠.dead:=fun i hi hne=>by
   have hlt:i<σ.length:=by
    have:=DH hi;rw[hs.N]at hne;simp at this;omega
   rwa [pe hlt,←hs.H]at hi
  split at hbi
  ·split at hbj
   ·omega
   rename_i h1 h2;have:=(hs.plow j b (key j hj h2) hbj).1;have:=(hp b hbi).1;omega
  rename_i h1;split at hbj
  ·have:=(hs.plow i b (key i hi h1) hbi).1;have:=(hp b hbj).1;omega
  rename_i h2;exact hs.inj i j b (key i hi h1) (key j hj h2) hbi hbj
 obj:=fun id o' ho=>by
  by_cases hlt:id<σ.length
  ·rw[arw hlt]at ho;have hne:id≠c.N:=by rw[hs.N];omega
   refine (hs.obj id o' ho).ext (Ext.grow hs o p room lp hw) (fun _=>by simp[bv.grow,hne]) fun hnd b hb=>hw b ?_;refine (hs.plow id b ?_ hb).1;rw[hs.H];exact fun h=>hnd ((mI ho).1 h)
  have:id=σ.length:=by
   have:=(aaN.1 ho).1;simp at this;omega
  subst this;rw[kc]at ho;cases ho;exact hobj
end Go.AM
namespace Go.AM
variable {M:bw} {w:World} {P:Program}
theorem gT(b o j:Nat):(⟨b,o,none⟩:Addr).add j=⟨b,o+j,none⟩:=by
 unfold Addr.add;split
 ·rename_i h;subst h;rfl
 rfl
theorem JK{x:Value}(h:x.oneCell'=true):x.cells=#[x]:=by
 cases x<;>first|rfl|(simp[Value.oneCell']at h)
theorem R.small{c:bv}{v:aa}{x:Value}(h:R M w c v x)(hx:x.oneCell'=true):aw v≤1∧isAgg v=false:=by
 cases h<;>first|exact⟨aes _,rfl⟩|exact⟨amn _,rfl⟩|(simp[Value.oneCell']at hx)
theorem R.oneOf{c:bv}{v:aa}{x:Value}(h:R M w c v x)(h1:aw v=1)(h2:isAgg v=false):x.oneCell'=true:=by
 cases h<;>first|rfl|assumption|(simp[isAgg]at h2;done)|(simp[aw]at h1;done)
theorem kI{v:aa}(h:aw v≠0):(cellsOf v).length=aw v:=by
 cases v<;>first|rfl|exact absurd rfl h
theorem mh{v:aa}(h:isAgg v=true):∃cs,v=.agg cs:=by
 cases v<;>first|exact⟨_,rfl⟩|(simp[isAgg]at h)
theorem oN{v:aa}(h:isAgg v=false):cellsOf v=[v]:=by
 cases v<;>first|rfl|(simp[isAgg]at h)
structure pb (M:bw) (w:World) (c:bv) (x:aa) (f:Nat→Value):Prop where
 one:∀j,j<aw x→(f j).oneCell'=true
 rel:∀j (h:j<(cellsOf x).length),R M w c (cellsOf x)[j] (f j)
theorem ajJ{c:bv}{cs:List aa}(f:Nat→Value)(h1:∀j,j<cs.length→(f j).oneCell'=true)(h2:∀j (h:j<cs.length),R M w c cs[j] (f j)) :
  R M w c (.agg cs) (.agg ((List.range cs.length).map f).toArray):=by
 refine .agg f (by simp) (fun i hi=>⟨by simp[hi],h1 i hi⟩) (fun i hi=>?_) h2;exact (h2 i hi).small (h1 i hi)
def p9(P:Program)(T:TypeId)(a:Bool)(s:Nat):Bool:=
 (P.info? T).map (·.size)==some s&&(match P.underlying T with
  |some (.struct _)|some (.array _ _)=>a
  |some _=>!a
  |none=>false)&&(a ||s==1)
theorem dJ{T:TypeId}{s:Nat}(h:(P.info? T).map (·.size)=some s)(w:World):(sizeOf T).run P w=.ok s w:=by
 unfold sizeOf typeInfo;cases hq:P.info? T with
 |none=>simp[hq]at h
 |some i=>simp[hq]at h ⊢;exact h
theorem oO{T:TypeId}{a:Bool}{s:Nat}(h:p9 P T a s=true)(w:World):(Go.isAgg T).run P w=.ok a w:=by
 unfold p9 at h;simp only[acz]at h;have h2:=h.1.2;unfold Go.isAgg Go.underlying;cases hq:P.underlying T with
 |none=>simp[hq]at h2
 |some d=>rw[hq]at h2;cases d<;>simp_all
theorem sd{T:TypeId}{a:Bool}{s:Nat}(h:p9 P T a s=true):(P.info? T).map (·.size)=some s:=by
 unfold p9 at h;simp only[acz,afE]at h;exact h.1.1
theorem wC{T:TypeId}{s:Nat}(h:p9 P T false s=true):s=1:=by
 unfold p9 at h;simp only[acz,afE,avm]at h;exact h.2
theorem Dx{T:TypeId}{a:Bool}{s:Nat}(h:p9 P T a s=true)(b o:Nat)(f:Nat→Value)(hc:∀j,j<s→w.cell? ⟨b,o+j,none⟩=some (f j)) :
  (loadVar T ⟨b,o,none⟩).run P w=.ok (if a then .agg ((List.range s).map f).toArray else f 0) w:=by
 unfold loadVar;cases a with
 |true=>
  simp only[Sem.run_bind,oO h,Result.andThen_ok,aml,dJ (sd h),Sem.run_pure];rw[run_loadCells w _ s f (fun j hj=>by rw[gT];exact hc j hj)];rfl
 |false=>
  obtain rfl:=wC h;simp only[Sem.run_bind,oO h,Result.andThen_ok,ai1,ali,run_load];have:=hc 0 (by omega);simp only[at9]at this;rw[this]
theorem CL{c:bv}{a:Bool}{s off:Nat}{x y:aa}{f:Nat→Value}(h:pb M w c x f)(hx:aw x≠0)(hg:ub a s x off=some y)(hs:a=false→s=1) :
  off+s≤aw x∧R M w c y (if a then .agg ((List.range s).map fun j=>f (off+j)).toArray else f off):=by
 unfold ub at hg;split at hg
 ·rename_i hc;obtain⟨rfl,h2,h3⟩:=hc;cases hg;refine⟨by omega,?_⟩;cases a with
  |true=>
   obtain⟨cs,rfl⟩:=mh h3;simp only[apx,aml];have h2':cs.length=s:=h2;subst h2';exact ajJ f (fun j hj=>h.one j hj) (fun j hj=>h.rel j hj)
  |false=>
   have hcs:=oN h3;have:=h.rel 0 (by rw[hcs];simp);simp only[hcs,ata]at this;exact this
 split at hg
 ·rename_i ha;subst ha;split at hg
  ·rename_i hl;cases hg;refine⟨hl,?_⟩;have hlen:(cellsOf x).length=aw x:=kI hx;have hl2:(((cellsOf x).drop off).take s).length=s:=by simp;omega
   have:=ajJ (M:=M) (w:=w) (c:=c) (cs:=((cellsOf x).drop off).take s) (fun j=>f (off+j)) (fun j hj=>h.one _ (by omega)) (fun j hj=>by
    have:=h.rel (off+j) (by omega);simp only[atK,atM];exact this)
   rw[hl2]at this;exact this
  cases hg
 rename_i ha;have ha':a=false:=by cases a<;>simp_all
 subst ha';obtain rfl:=hs rfl;obtain⟨hlt,rfl⟩:=aaN.1 hg;refine⟨by rw[kI hx]at hlt;omega,?_⟩;exact h.rel off hlt
end Go.AM
namespace Go.AM
variable {M:bw} {w:World} {P:Program}
structure Same (w w':World):Prop where
 tape:w'.tape=w.tape
 os:w'.os=w.os
 output:w'.output=w.output
 drawn:w.drawn≤w'.drawn
theorem Same.refl(w:World):Same w w:=⟨rfl,rfl,rfl,aes _⟩
theorem Same.trans{a b c:World}(h:Same a b)(k:Same b c):Same a c:=⟨k.tape.trans h.tape,k.os.trans h.os,k.output.trans h.output,als h.drawn k.drawn⟩
structure sJ (w w':World) (b:Nat) (o:Go.Obj):Prop extends Same w w' where
 heap:w'.heap=w.heap.setIfInBounds b o
theorem sJ.get{w w':World}{b:Nat}{o:Go.Obj}(h:sJ w w' b o)(i:Nat)(hb:b<w.heap.size):w'.heap[i]?=if i=b then some o else w.heap[i]?:=by
 rw[h.heap,atr];by_cases hi:i=b
 ·subst hi;simp[hb]
 rw[if_neg (fun e=>hi e.symm),if_neg hi]
theorem sJ.size{w w':World}{b:Nat}{o:Go.Obj}(h:sJ w w' b o):w'.heap.size=w.heap.size:=by rw[h.heap];simp
theorem Qp{w:World}{b o:Nat}{cur:Array Value}{T:TypeId}{v:Value}(h:w.heap[b]?=some (.cells cur T (0,0))) :
  sJ w (w.setCell ⟨b,o,none⟩ v) b (.cells (cur.setIfInBounds o v) T (0,0)):=by
 refine⟨⟨rfl,rfl,rfl,aes _⟩,?_⟩;obtain⟨hlt,he⟩:=ak4.1 h;simp only[World.setCell];apply atY;intro i;rw[auG,atr];split
 ·rename_i e;subst e;rw[h];rfl
 rfl
theorem ji(b o:Nat)(T:TypeId):∀(vs:List Value) (i:Nat) (cur:Array Value) (w:World),w.heap[b]?=some (.cells cur T (0,0))→o+i+vs.length≤cur.size→(∀v∈vs,v.oneCell'=true) →
  ∃(w':World) (cur':Array Value),(storeCells ⟨b,o,none⟩ vs i).run P w=.ok () w'∧sJ w w' b (.cells cur' T (0,0))∧cur'.size=cur.size ∧
   ∀j,cur'[j]?=if o+i≤j∧j<o+i+vs.length then vs[j-(o+i)]? else cur[j]?
 |[],i,cur,w,h,_,_=>by
  refine⟨w,cur,rfl,⟨.refl w,?_⟩,rfl,fun j=>?_⟩
  ·obtain⟨hlt,he⟩:=ak4.1 h;apply atY;intro k;rw[atr];split
   ·rename_i e;subst e;rw[h]
   rfl
  rw[if_neg (by rintro⟨q1,q2⟩;simp at q2;omega)]
 |v::vs,i,cur,w,h,hl,h1=>by
  have hlt:o+i<cur.size:=by simp at hl;omega
  have hc:w.cell? ⟨b,o+i,none⟩=some cur[o+i]:=by
   simp[World.cell?,h,hlt]
  have hs:=Qp (o:=o+i) (v:=v) h;have hb:b<w.heap.size:=(ak4.1 h).1;have h':(w.setCell ⟨b,o+i,none⟩ v).heap[b]?=some (.cells (cur.setIfInBounds (o+i) v) T (0,0)):=by
   rw[hs.get _ hb,if_pos rfl]
  obtain⟨w',cur',hr,hw,hz,hj⟩:=ji b o T vs (i+1) _ _ h' (by simp at hl ⊢;omega) (fun x hx=>h1 x (aer _ hx));refine⟨w',cur',?_,⟨hs.toSame.trans hw.toSame,?_⟩,by rw[hz];simp,fun j=>?_⟩
  ·simp only[storeCells,Sem.run_bind,gT];rw[run_store P w _ v .plain (h1 v (aoQ ..)),hc];have hf:w.frozen? ⟨b,o+i,none⟩=false:=by simp[World.frozen?,h]
   simp only[hf,ai1,ali,Result.andThen_ok];exact hr
  ·rw[hw.heap,hs.heap];apply atY;intro k;simp only[atr,avD];split<;>rfl
  rw[hj j];by_cases hj1:o+(i+1)≤j∧j<o+(i+1)+vs.length
  ·rw[if_pos hj1,if_pos (by simp;omega)];rw[show j-(o+i)=(j-(o+(i+1)))+1 by omega];simp
  rw[if_neg hj1,atr];by_cases hj2:o+i=j
  ·subst hj2;rw[if_pos rfl,if_pos hlt,if_pos (by simp)];simp
  rw[if_neg hj2,if_neg (by simp;omega)]
theorem cO.setObj'{c:bv}{σ:ah}{w':World}(hs:cO M w c σ){id:Nat}{o0 o1:Obj}{b:Nat}{o:Go.Obj}(hid:σ[id]?=some o0)(h0:o0≠.dead)(hh:hd (σ.set id o1) id=hd σ id)
  (hb:c.place id=some b) (hw:sJ w w' b o) (hobj:wg M w' c id o1):cO M w' c (σ.set id o1)∧Ext c w c w':=by
 have hlt:id<σ.length:=(aaN.1 hid).1;have hH:hd (σ.set id o1)=hd σ:=by
  funext i;by_cases hi:id=i
  ·subst hi;exact hh
  unfold hd;rw[atz hi]
 have hlive:c.H id≠.dead:=by rw[hs.H];exact fun h=>h0 ((mI hid).1 h)
 obtain⟨hbs,hbn⟩:=hs.plow id b hlive hb;have hrest:∀x,x≠b→w'.heap[x]?=w.heap[x]?:=fun x hx=>by rw[hw.get _ hbs,if_neg hx]
 have hext:Ext c w c w':=⟨fun _ h=>h,fun _ h=>h,fun x hx=>hrest x (fun e=>by subst e;exact hbn (hx.elim (fun h=>h) (hs.sb _))),aes _,fun _ _=>.inl rfl,fun _ _ _ _=>⟨rfl,rfl,rfl⟩⟩;refine⟨⟨by rw[hH];exact hs.H,by rw[hs.N];simp,hs.sb,by rw[hw.size];exact hs.low,by rw[hw.size];exact hs.plow,hs.inj,fun i o' ho=>?_⟩,hext⟩;by_cases hi:id=i
 ·subst hi;rw[at7 hlt]at ho;cases ho;exact hobj
 rw[atz hi]at ho;refine (hs.obj i o' ho).ext hext (fun _=>⟨rfl,rfl,rfl⟩) fun hnd b' hb'=>hrest b' (fun e=>?_);subst e;exact hi (hs.inj id i b' hlive (by rw[hs.H];exact fun h=>hnd ((mI ho).1 h)) hb hb')
theorem cO.setObj{c:bv}{σ:ah}{w':World}(hs:cO M w c σ){id k ep:Nat}{es es':List aa}{b:Nat}{o:Go.Obj}(hid:σ[id]?=some (.arr k ep es))
  (hb:c.place id=some b) (hw:sJ w w' b o) (hobj:wg M w' c id (.arr k ep es')):cO M w' c (σ.set id (.arr k ep es'))∧Ext c w c w':=
 hs.setObj' hid (by simp) (by rw[cU (at7 (aaN.1 hid).1),cU hid]) hb hw hobj
end Go.AM
namespace Go.AM
variable {M:bw} {w:World} {P:Program}
structure fK (c:bv) (w:World) (c':bv) (w':World):Prop extends Ext c w c' w' where
 same:Same w w'
 size:w.heap.size≤w'.heap.size
 frame:∀b,b<w.heap.size→(∀id,c.H id≠.dead→c.place id≠some b)→w'.heap[b]?=w.heap[b]?
 liv:∀id b,c'.H id≠.dead→c'.place id=some b→b<w.heap.size→∃i,c.H i≠.dead∧c.place i=some b
 old:∀b,c'.sld b→b<w.heap.size→c.sld b∨∃i,c.H i≠.dead∧c.place i=some b
 oldb:∀b,c'.bor b→b<w.heap.size→c.bor b∨∃i,c.H i≠.dead∧c.place i=some b
theorem fK.refl(c:bv)(w:World):fK c w c w:=
 { Ext.refl c w with same:=.refl w,size:=aes _,frame:=fun _ _ _=>rfl,liv:=fun id _ h1 h2 _=>⟨id,h1,h2⟩,old:=fun _ h _=>.inl h,oldb:=fun _ h _=>.inl h }
theorem fK.trans{c c' c'':bv}{w w' w'':World}(h:fK c w c' w')(k:fK c' w' c'' w''):fK c w c'' w'':=
 { Ext.trans h.toExt k.toExt with
  same:=h.same.trans k.same
  size:=als h.size k.size
  frame:=fun b hb hn=>by
   rw[k.frame b (aju hb h.size) (fun id h1 h2=>?_),h.frame b hb hn];obtain⟨i,a1,a2⟩:=h.liv id b h1 h2 hb;exact hn i a1 a2
  old:=fun b h1 hb=>by
   rcases k.old b h1 (aju hb h.size) with h2|⟨i,a1,a2⟩
   ·exact h.old b h2 hb
   exact .inr (h.liv i b a1 a2 hb)
  oldb:=fun b h1 hb=>by
   rcases k.oldb b h1 (aju hb h.size) with h2|⟨i,a1,a2⟩
   ·exact h.oldb b h2 hb
   exact .inr (h.liv i b a1 a2 hb)
  liv:=fun id b h1 h2 hb=>by
   obtain⟨i,a1,a2⟩:=k.liv id b h1 h2 (aju hb h.size);exact h.liv i b a1 a2 hb }
def ns(M:bw)(P:Program)(c:bv)(w:World)(s:Sem Next)(v:aa)(σ':ah):Prop:=
 ∃nx w' c' cv,s.run P w=.ok nx w'∧(nx=.value cv∨(nx=.skip∧cv=undef))∧cO M w' c' σ'∧fK c w c' w'∧R M w' c' v cv
theorem ns.quiet{c:bv}{σ:ah}{s:Sem Value}{v:aa}{cv:Value}(hs:cO M w c σ)(h:s.run P w=.ok cv w)(hr:R M w c v cv) :
  ns M P c w (do pure (.value (←s))) v σ:=
 ⟨_,w,c,cv,by simp[h],.inl rfl,hs,.refl c w,hr⟩
theorem ns.of{c c':bv}{w':World}{σ':ah}{s:Sem Value}{v:aa}{cv:Value}(h:s.run P w=.ok cv w')(hs:cO M w' c' σ')(ht:fK c w c' w')(hr:R M w' c' v cv) :
  ns M P c w (do pure (.value (←s))) v σ':=
 ⟨_,w',c',cv,by simp[h],.inl rfl,hs,ht,hr⟩
theorem ns.now{c:bv}{σ:ah}{v:aa}{cv:Value}(hs:cO M w c σ)(hr:R M w c v cv):ns M P c w (pure (.value cv)) v σ:=
 ⟨_,w,c,cv,rfl,.inl rfl,hs,.refl c w,hr⟩
theorem Ext.ofStill{c:bv}(hsb:∀b,c.sld b→c.bor b)(b:Bool):Ext (c.still b) w c w where
 sld:=fun _ h=>h
 bor:=fun x h=>by
  cases b
  ·exact hsb x h
  exact h
 rest:=fun _ _=>rfl
 N:=amn _
 head:=fun id hid=>absurd hid (art _)
 place:=fun id hid=>absurd hid (art _)
theorem zF{σ:ah}{id ep i:Nat}{x:aa}(h:oX σ id ep i=some x):∃k es,σ[id]?=some (.arr k ep es)∧es[i]?=some x:=by
 unfold oX at h;split at h
 ·rename_i k e es he;split at h
  ·rename_i hc;subst hc;exact⟨_,_,he,h⟩
  cases h
 cases h
theorem kK{σ:ah}{id ep off len:Nat}{xs:List aa}(h:sliceAt σ id ep off len=some xs) :
  ∃k es,σ[id]?=some (.arr k ep es)∧off+len≤es.length∧xs=(es.drop off).take len:=by
 unfold sliceAt at h;split at h
 ·rename_i k e es he;split at h
  ·rename_i hc;obtain⟨rfl,hl⟩:=hc;cases h;exact⟨_,_,he,hl,rfl⟩
  cases h
 cases h
theorem cO.elem{c:bv}{σ:ah}(hs:cO M w c σ){id k ep i:Nat}{es:List aa}{x:aa}(ho:σ[id]?=some (.arr k ep es))(hx:es[i]?=some x) :
  ∃b f,c.place id=some b∧pb M w c x f∧aw x=k∧k≠0∧∀j,j<k→w.cell? ⟨b,i*k+j,none⟩=some (f j):=by
 obtain⟨h1,h2,h3,h4⟩:=hs.obj id _ ho;obtain⟨hi,rfl⟩:=aaN.1 hx;cases hp:c.place id with
 |none=>rw[h3 hp]at hi;exact absurd hi (by simp)
 |some b=>
  obtain⟨cs,T,f,q1,q2,q3,q4,q5⟩:=h4 b hp;have hk:aw es[i]=k:=h2 _ (agL hi);refine⟨b,f i,rfl,⟨fun j hj=>(q4 i j hi (hk▸hj)).2,fun j hj=>q5 i hi j hj⟩,hk,h1,fun j hj=>?_⟩;simp only[World.cell?,q1];exact (q4 i j hi hj).1
theorem W3{c:bv}{σ:ah}(hs:cO M w c σ){id ep i off:Nat}{p:Value}(hp:R M w c (.ptr id ep i off) p){k:Nat}{es:List aa}(ho:σ[id]?=some (.arr k ep es)) :
  ∃b,c.place id=some b∧p=.pointer (some ⟨b,i*k+off,none⟩):=by
 have hH:c.H id=.arr k ep:=by rw[hs.H,cU ho]
 cases hp with
 |ptr h1 h2 h3=>rw[hH]at h2;cases h2;exact⟨_,h3,rfl⟩
 |ptrOld h0 h1 h2=>exact absurd (h2 _ _ hH) (ato _)
theorem aaz{c:bv}{σ:ah}(hs:cO M w c σ){p:aa}{cp:Value}(hp:R M w c p cp){T:TypeId}{a:Bool}{s:Nat}(ht:p9 P T a s=true){v:aa}
  (hl:loadAt a s p σ=some v):∃cv,(Instr.loadAt T cp).run P w=.ok cv w∧R M w c v cv:=by
 unfold loadAt at hl;split at hl
 ·rename_i b x off;cases hp with
  |@cptr _ _ _ _ o blk f h1 h2 h3 h4=>
   have hcr:pb M w c x f:=⟨fun j hj=>(h3 j hj).2,fun j hj=>by
    cases b with
    |true=>exact h4 j hj
    |false=>exact (h4 j hj).ext (Ext.ofStill hs.sb false)⟩
   obtain⟨hle,hr⟩:=CL hcr h2 hl (fun ha=>by subst ha;exact wC ht);refine⟨_,?_,hr⟩;unfold Instr.loadAt Instr.sureAddr;simp only[Sem.run_bind,Sem.run_pure,Result.andThen_ok];rw[Dx ht blk (o+off) (fun j=>f (off+j)) (fun j hj=>by rw[arJ];exact (h3 (off+j) (by omega)).1)];cases a<;>rfl
 ·rename_i id ep i off;simp only[agx]at hl;obtain⟨x,hx,hg⟩:=hl;obtain⟨k,es,ho,hei⟩:=zF hx;obtain⟨b,f,hb,hcr,hk,hk0,hcell⟩:=hs.elem ho hei;obtain⟨b',hb',rfl⟩:=W3 hs hp ho;rw[hb]at hb';cases hb';obtain⟨hle,hr⟩:=CL hcr (by omega) hg (fun ha=>by subst ha;exact wC ht);refine⟨_,?_,hr⟩;unfold Instr.loadAt Instr.sureAddr;simp only[Sem.run_bind,Sem.run_pure,Result.andThen_ok];rw[Dx ht b (i*k+off) (fun j=>f (off+j)) (fun j hj=>by rw[arJ];exact hcell (off+j) (by omega))];cases a<;>rfl
 cases hl
theorem oo{c:bv}{v:aa}{cv:Value}(h:R M w c v cv)(hn:aw v≠0):∃f:Nat→Value,pb M w c v f∧cv.cells.size=aw v∧∀j,j<aw v→cv.cells[j]?=some (f j):=by
 cases hv:Go.AM.isAgg v with
 |true=>
  obtain⟨cs,rfl⟩:=mh hv;cases h with
  |agg f h1 h2 h3 h4=>exact⟨f,⟨fun j hj=>(h2 j hj).2,h4⟩,h1,fun j hj=>(h2 j hj).1⟩
 |false=>
  have h1:aw v=1:=by
   cases v<;>first|rfl|exact absurd rfl hn|(simp[Go.AM.isAgg]at hv)
  have ho:=h.oneOf h1 hv;refine⟨fun _=>cv,⟨fun _ _=>ho,fun j hj=>?_⟩,by rw[JK ho,h1];rfl,fun j hj=>?_⟩
  ·simp only[oN hv]at hj ⊢;have:j=0:=by simp at hj;omega
   subst this;exact h
  rw[h1]at hj;have:j=0:=by omega
  subst this;rw[JK ho];rfl
theorem XC{c:bv}{s off:Nat}{x v x':aa}{f g:Nat→Value}(hx:pb M w c x f)(hx0:aw x≠0)(hv:pb M w c v g)(hs:s≠0)(h:Bw s x off v=some x') :
  aw v=s∧off+s≤aw x∧aw x'=aw x∧pb M w c x' (fun j=>if off≤j∧j<off+s then g (j-off) else f j):=by
 unfold Bw at h;split at h
 ·rename_i hvs;split at h
  ·rename_i hc;obtain⟨rfl,h2,h3⟩:=hc;cases h;refine⟨hvs,by omega,by omega,⟨fun j hj=>?_,fun j hj=>?_⟩⟩
   ·rw[if_pos ⟨amn _,by omega⟩];exact hv.one _ hj
   have:=kI (v:=v) (by omega);rw[if_pos ⟨amn _,by omega⟩];exact hv.rel _ hj
  split at h
  ·rename_i hc;obtain⟨h2,h3⟩:=hc;cases h;have lx:=kI hx0;have lv:=kI (v:=v) (by omega);have hlen:((cellsOf x).take off++cellsOf v++(cellsOf x).drop (off+s)).length=aw x:=by simp;omega
   refine⟨hvs,h2,hlen,⟨fun j hj=>?_,fun j hj=>?_⟩⟩
   ·rw[show aw (.agg ((cellsOf x).take off++cellsOf v++(cellsOf x).drop (off+s)))=aw x from hlen]at hj;split
    ·exact hv.one _ (by omega)
    exact hx.one _ hj
   change j<((cellsOf x).take off++cellsOf v++(cellsOf x).drop (off+s)).length at hj;change R M w c ((cellsOf x).take off++cellsOf v++(cellsOf x).drop (off+s))[j] _;rw[hlen]at hj;by_cases hj1:j<off
   ·rw[if_neg (by omega)];have:=hx.rel j (by omega);rw[amd (by simp;omega),amd (by simp;omega)];simpa using this
   by_cases hj2:j<off+s
   ·rw[if_pos ⟨by omega,hj2⟩];have:=hv.rel (j-off) (by omega);rw[amd (by simp;omega),arK (by simp;omega)];simp only[al4];have e:j-min off (cellsOf x).length=j-off:=by rw[atw (by omega)]
    simpa [e] using this
   rw[if_neg (by omega)];have:=hx.rel j (by omega);rw[arK (by simp;omega)];simp only[atM,aog,al4];have e:off+s+(j-(min off (cellsOf x).length+(cellsOf v).length))=j:=by rw[atw (by omega)];omega
   simpa [e] using this
  cases h
 cases h
theorem pb.ext{c c':bv}{w':World}{x:aa}{f:Nat→Value}(h:pb M w c x f)(he:Ext c w c' w'):pb M w' c' x f:=
 ⟨h.one,fun j hj=>(h.rel j hj).ext he⟩
theorem fK.setB{c:bv}{σ:ah}{w':World}(hs:cO M w c σ){id b:Nat}{o:Go.Obj}(hl:c.H id≠.dead)(hb:c.place id=some b)(hw:sJ w w' b o)(he:Ext c w c w'):fK c w c w':=
 { he with
  same:=hw.toSame
  size:=by rw[hw.size];exact aes _
  frame:=fun x hx hn=>by rw[hw.get _ (hs.plow id b hl hb).1,if_neg (fun e=>hn id hl (by subst e;exact hb))]
  liv:=fun i x h1 h2 _=>⟨i,h1,h2⟩
  old:=fun _ h _=>.inl h
  oldb:=fun _ h _=>.inl h }
theorem ae0{c:bv}{σ σ':ah}(hs:cO M w c σ){p v:aa}{cp cv:Value}(hp:R M w c p cp)(hv:R M w c v cv){T:TypeId}{s:Nat}(ht:(P.info? T).map (·.size)=some s)(hs0:s≠0)
  (hst:storeAt s p v σ=some σ'):∃w',(Instr.storeAt T cp cv).run P w=.ok () w'∧cO M w' c σ'∧fK c w c w':=by
 unfold storeAt at hst;split at hst
 ·rename_i id ep i off;split at hst
  ·rename_i k e es ho;split at hst
   ·rename_i he;subst he;simp only[agx,aiu]at hst;obtain⟨x,hx,x',hx',rfl⟩:=hst;obtain⟨b,f,hb,hcr,hk,hk0,hcell⟩:=hs.elem ho hx;obtain⟨b',hb',rfl⟩:=W3 hs hp ho;rw[hb]at hb';cases hb';have hlive:c.H id≠.dead:=by rw[hs.H,cU ho];simp
    have hnv:aw v=s:=by unfold Bw at hx';split at hx'<;>first|assumption|cases hx'
    obtain⟨g,hg,hgs,hgc⟩:=oo hv (by omega);obtain⟨_,hle,hnx,hcr'⟩:=XC hcr (by omega) hg hs0 hx';obtain⟨o1,o2,o3,o4⟩:=hs.obj id _ ho;obtain⟨cs,T',F,q1,q2,q3,q4,q5⟩:=o4 b hb;obtain⟨hi,hxe⟩:=aaN.1 hx;have hfit:i*k+off+s≤cs.size:=by
     have:(i+1)*k≤es.length*k:=arf k hi;rw[atx]at this;omega
    obtain⟨w',cs',hr,hw,hz,hj⟩:=ji (P:=P) b (i*k+off) T' cv.cells.toList 0 cs w q1 (by simp[hgs];omega) (fun y hy=>by
     obtain⟨j,hj,rfl⟩:=ati.1 hy;have hj':j<aw v:=by simp at hj;omega
     have:=hgc j hj';rw[atl (by simpa using hj)]at this;have h2:=hg.one j hj';simp only[auN];rw[as7 this];exact h2)
    have hcs':∀j,cs'[j]?=if i*k+off≤j∧j<i*k+off+s then some (g (j-(i*k+off))) else cs[j]?:=fun j=>by
     rw[hj j];simp only[at9,ath,hgs,hnv];split
     ·rename_i hc;have:=hgc (j-(i*k+off)) (by omega);simpa using this
     rfl
    have hbn:=hs.plow id b hlive hb;have hext:Ext c w c w':=⟨fun _ h=>h,fun _ h=>h,fun y hy=>by rw[hw.get _ hbn.1,if_neg (fun e=>by subst e;exact hbn.2 (hy.elim (fun h=>h) (hs.sb _)))],aes _,fun _ _=>.inl rfl,fun _ _ _ _=>⟨rfl,rfl,rfl⟩⟩;have hobj:wg M w' c id (.arr k e (es.set i x')):=by
     refine⟨o1,fun y hy=>?_,fun hn=>(by rw[hb]at hn;cases hn),fun b' hb'=>?_⟩
     ·rcases aua hy with h|h
      ·exact o2 y h
      rw[h];omega
     rw[hb]at hb';cases hb';refine⟨cs',T',fun i' j=>if i'=i then (if off≤j∧j<off+s then g (j-off) else F i j) else F i' j,by rw[hw.get _ hbn.1,if_pos rfl],by simp;omega,by rw[hz];exact q3,fun i' j hi' hj'=>?_,fun i' hi' j hj'=>?_⟩
     ·simp only[auF]at hi';dsimp only;by_cases hii:i'=i
      ·subst hii;rw[if_pos rfl,hcs'];by_cases hr1:off≤j∧j<off+s
       ·rw[if_pos ⟨by omega,by omega⟩,if_pos hr1];have e1:i' * k+j-(i' * k+off)=j-off:=by omega
        rw[e1];exact⟨rfl,hg.one _ (by omega)⟩
       rw[if_neg (by omega),if_neg hr1];exact q4 i' j hi' hj'
      rw[if_neg hii,hcs',if_neg]
      ·exact q4 i' j hi' hj'
      rintro⟨a1,a2⟩;rcases Nat.lt_or_gt_of_ne hii with h|h
      ·have:(i'+1)*k≤i*k:=arf k h;rw[atx]at this;omega
      have:(i+1)*k≤i' * k:=arf k h;rw[atx]at this;omega
     by_cases hii:i'=i
     ·subst hii;simp only[auJ]at hj' ⊢;rw[if_pos trivial];have hF:∀j,j<k→f j=F i' j:=fun j hj=>by
       have h1:=hcell j hj;simp only[World.cell?,q1]at h1;have h2:=(q4 i' j hi hj).1;simp at h1;rw[h2]at h1;exact (as7 h1).symm
      have:=(hcr'.rel j hj').ext hext;have hjk:j<k:=by rw[kI (by omega)]at hj';omega
      rw[←hF j hjk];exact this
     dsimp only;rw[if_neg hii];have hi2:i' < es.length:=by simpa using hi'
     have e1:(es.set i x')[i']=es[i']:=by rw[auv (fun h=>hii h.symm)]
     simp only[e1]at hj' ⊢;exact (q5 i' hi2 j hj').ext hext
    obtain⟨hsim,_⟩:=hs.setObj ho hb hw hobj;refine⟨w',?_,hsim,fK.setB hs hlive hb hw hext⟩;unfold Instr.storeAt Instr.sureAddr storeVar;simp only[Sem.run_bind,Sem.run_pure,Result.andThen_ok,dJ ht,Sem.run_ite,hgs,hnv,ne_eq,av1,ali];exact hr
   cases hst
  cases hst
 cases hst
end Go.AM
namespace Go.AM
variable {M:bw} {w:World} {P:Program}
theorem eT{o:Go.Obj}{b:Nat}(h:b<w.heap.size):(iH w o).heap[b]?=w.heap[b]?:=by
 show (w.heap.push o)[b]?=_;rw[Array.getElem?_push,if_neg (Nat.ne_of_lt h)]
theorem pL{o:Go.Obj}:(iH w o).heap[w.heap.size]?=some o:=by
 show (w.heap.push o)[w.heap.size]?=_;rw[Array.getElem?_push,if_pos rfl]
theorem dq{o:Go.Obj}:(iH w o).heap.size=w.heap.size+1:=by
 show (w.heap.push o).size=_;simp
theorem lV{o:Go.Obj}:Same w (iH w o):=⟨rfl,rfl,rfl,aes _⟩
theorem fK.grow{c:bv}{σ:ah}{w':World}(hs:cO M w c σ)(o:Obj)(p:Option Nat)(room:Nat)(lp:ia)(hsame:Same w w')
  (hw:∀b,b<w.heap.size→w'.heap[b]?=w.heap[b]?) (hz:w.heap.size≤w'.heap.size) (hp:∀b,p=some b→w.heap.size≤b) :
  fK c w (c.grow (σ++[o]) p room lp) w':=
 { Ext.grow hs o p room lp hw with
  same:=hsame
  size:=hz
  frame:=fun b hb _=>hw b hb
  old:=fun _ h _=>.inl h
  oldb:=fun _ h _=>.inl h
  liv:=fun id b h1 h2 hb=>by
   simp only[bv.grow]at h1 h2;split at h2
   ·exact absurd (hp b h2) (by omega)
   rename_i hne;refine⟨id,?_,h2⟩;have hlt:id<σ.length:=by
    have:=DH h1;rw[hs.N]at hne;simp at this;omega
   rw[hs.H];rwa [pe hlt]at h1 }
theorem cO.newArr{c:bv}{σ:ah}(hs:cO M w c σ){k ep:Nat}{es:List aa}{cs:Array Value}{T:TypeId}(f:Nat→Nat→Value)(hk:k≠0)(hall:∀x∈es,aw x=k)
  (hsz:es.length*k≤cs.size) (hc:∀i j,i<es.length→j<k→cs[i*k+j]?=some (f i j)∧(f i j).oneCell'=true)
  (hr:∀i (hi:i<es.length) j (hj:j<(cellsOf es[i]).length),R M w c (cellsOf es[i])[j] (f i j)) :
  ∃c',c'.N=σ.length+1∧c'.H σ.length=.arr k ep∧c'.place σ.length=some w.heap.size∧c'.room σ.length=cs.size ∧
   cO M (iH w (.cells cs T (0,0))) c' (σ++[.arr k ep es])∧fK c w c' (iH w (.cells cs T (0,0))):=by
 have hext:=Ext.grow (w':=iH w (.cells cs T (0,0))) hs (.arr k ep es) (some w.heap.size) cs.size (c.loops 0) (fun b hb=>eT hb);refine⟨c.grow (σ++[.arr k ep es]) (some w.heap.size) cs.size (c.loops 0),by simp[bv.grow],?_,by simp[bv.grow,hs.N],by simp[bv.grow,hs.N],?_,?_⟩
 ·show hd (σ++[.arr k ep es]) σ.length=_;rw[cU kc]
 ·refine hs.grow _ _ _ _ (fun b hb=>eT hb) (by rw[dq];omega) (fun b hb=>by cases hb;rw[dq];omega) ?_;refine⟨hk,hall,fun hn=>by simp[bv.grow,hs.N]at hn,fun b hb=>?_⟩;have hb':b=w.heap.size:=by simp[bv.grow,hs.N]at hb;exact hb.symm
  subst hb';exact⟨cs,T,f,pL,hsz,by simp[bv.grow,hs.N],hc,fun i hi j hj=>(hr i hi j hj).ext hext⟩
 exact fK.grow hs _ _ _ _ lV (fun b hb=>eT hb) (by rw[dq];omega) (fun b hb=>by cases hb;exact aes _)
theorem ahs{c:bv}{σ:ah}(hs:cO M w c σ){v:aa}{cv:Value}(hv:R M w c v cv){T:TypeId}{k:Nat}(hk:aw v=k)(hk0:k≠0) :
  ns M P c w (do pure (.value (←Instr.box T cv))) (.ptr σ.length 0 0 0) (σ++[.arr k 0 [v]]):=by
 obtain⟨g,hg,hgs,hgc⟩:=oo hv (by omega)
 obtain⟨c',h1,h2,h3,h4,hsim,hstp⟩:=hs.newArr (ep:=0) (T:=T) (es:=[v]) (cs:=cv.cells) (fun _ j=>g j) hk0 (by simp[hk]) (by simp;omega)
  (fun i j hi hj=>by
   have:i=0:=by simp at hi;omega
   subst this;rw[avv,apx];exact⟨hgc j (by omega),hg.one j (by omega)⟩)
  (fun i hi j hj=>by
   have:i=0:=by simp at hi;omega
   subst this;exact hg.rel j hj)
 refine⟨_,_,c',_,by simp[Instr.box,newVar,newRow];exact⟨rfl,rfl⟩,.inl rfl,hsim,hstp,?_⟩;have:=R.ptr (M:=M) (w:=iH w (.cells cv.cells T (0,0))) (c:=c') (id:=σ.length) (ep:=0) (i:=0) (off:=0) (by omega) h2 h3;simpa using this
def bv.addStill(c:bv)(b:Nat):bv:={ c with sld:=fun x=>c.sld x∨x=b,bor:=fun x=>c.bor x∨x=b }
theorem cO.addStill{c:bv}{σ:ah}(hs:cO M w c σ)(o:Go.Obj) :
  cO M (iH w o) (c.addStill w.heap.size) σ∧fK c w (c.addStill w.heap.size) (iH w o):=by
 have hext:Ext c w (c.addStill w.heap.size) (iH w o):=⟨fun _ h=>.inl h,fun _ h=>.inl h,fun b hb=>eT (hs.low b (hb.elim (fun h=>h) (hs.sb b))),aes _,fun _ _=>.inl rfl,fun _ _ _ _=>⟨rfl,rfl,rfl⟩⟩;refine⟨⟨hs.H,hs.N,fun b hb=>hb.imp (hs.sb b) id,fun b hb=>?_,fun id b h1 h2=>?_,hs.inj,fun id o' ho=>?_⟩,{ hext with same:=lV,size:=by rw[dq];omega,frame:=fun b hb _=>eT hb,liv:=fun id b h1 h2 _=>⟨id,h1,h2⟩,old:=fun b h hb=>h.elim .inl (fun e=>by omega),oldb:=fun b h hb=>h.elim .inl (fun e=>by omega) }⟩
 ·rw[dq];rcases hb with hb|hb
  ·exact Nat.lt_succ_of_lt (hs.low b hb)
  omega
 ·obtain⟨a1,a2⟩:=hs.plow id b h1 h2;refine⟨by rw[dq];omega,fun hb=>hb.elim a2 (fun e=>by omega)⟩
 exact (hs.obj id o' ho).ext hext (fun _=>⟨rfl,rfl,rfl⟩) fun hnd b hb=>eT (hs.plow id b (by rw[hs.H];exact fun h=>hnd ((mI ho).1 h)) hb).1
theorem GC{c:bv}{k:Nat}(hk:k≠0):∀{vs:List aa} {cvs:List Value},vs.length=cvs.length→(∀i (h:i<vs.length) (h':i<cvs.length),R M w c vs[i] cvs[i])→(∀v∈vs,aw v=k) →
  ∃f:Nat→Nat→Value,(cvs.flatMap fun v=>v.cells.toList).length=vs.length*k ∧
   (∀i j,i<vs.length→j<k→(cvs.flatMap fun v=>v.cells.toList)[i*k+j]?=some (f i j)∧(f i j).oneCell'=true) ∧
   ∀i (hi:i<vs.length) j (hj:j<(cellsOf vs[i]).length),R M w c (cellsOf vs[i])[j] (f i j)
 |[],[],_,_,_=>⟨fun _ _=>undef,by simp,fun i j hi=>absurd hi (by simp),fun i hi=>absurd hi (by simp)⟩
 |v::vs,cv::cvs,hl,hr,hn=>by
  have h0:=hr 0 (by simp) (by simp);simp only[ata]at h0;have hk0:aw v=k:=hn v (aoQ ..);obtain⟨g,hg,hgs,hgc⟩:=oo h0 (by omega);obtain⟨f,f1,f2,f3⟩:=GC (c:=c) (k:=k) hk (vs:=vs) (cvs:=cvs) (by simpa using hl) (fun i h h'=>by have:=hr (i+1) (by simpa using h) (by simpa using h');simpa using this) (fun x hx=>hn x (aer _ hx));refine⟨fun i j=>if i=0 then g j else f (i-1) j,?_,fun i j hi hj=>?_,fun i hi j hj=>?_⟩
  ·simp only[atE,aog,f1,aiG,ath,hgs,hk0];rw[atx];omega
  ·simp only[atE];cases i with
   |zero=>
    rw[if_pos rfl,arw (by simp[hgs];omega)];simp only[avv,apx,aum];exact⟨hgc j (by omega),hg.one j (by omega)⟩
   |succ i=>
    rw[if_neg (by omega),arD (by simp[hgs,hk0];rw[atx];omega)];have e:(i+1)*k+j-cv.cells.toList.length=i*k+j:=by simp[hgs,hk0];rw[atx];omega
    rw[e];have:=f2 i j (by simpa using hi) hj;simpa using this
  cases i with
  |zero=>simpa using hg.rel j (by simpa using hj)
  |succ i=>
   dsimp only;rw[if_neg (by omega)];have:=f3 i (by simpa using hi) j (by simpa using hj);simpa using this
end Go.AM
namespace Go.AM
variable {M:bw} {w:World} {P:Program}
def kh(fm:Nat→FuncId):Nat→Value→aa→Bool
 |_,.int k n,.int k' m=>k==k'&&n==m
 |_,.bool b,.bool b'=>b==b'
 |_,.string s,.str l=>s.data.toList==l
 |_,.slice none 0 0,.yz=>true
 |_,.slice none 0 0,.wh _ []=>true
 |_,.pointer none,.nilp=>true
 |_,.nilFunc,.nilf=>true
 |_,.map none,.nilm=>true
 |_,.func (.func f) a b,.fn n [] []=>a.size==0&&b.size==0&&fm n==f
 |n+1,.agg vs,.agg cs=>vs.size==cs.length&&(vs.toList.zip cs).all fun p=>p.1.oneCell'&&kh fm n p.1 p.2
 |_,_,_=>false
theorem rt{c:bv}:∀{n:Nat} {v:Value} {a:aa},kh M.fm n v a=true→R M w c a v:=by
 intro n;induction n with
 |zero=>
  intro v a h;unfold kh at h;split at h<;>simp_all
  ·exact .int
  ·exact .bool
  ·exact .str h
  ·exact .yz
  ·exact .imm0
  ·exact .nilp
  ·exact .nilf
  ·exact .nilm
  rename_i f a b m;obtain⟨⟨h1,h2⟩,rfl⟩:=h;exact .fn (fun _=>undef) (fun _=>undef) (by simp) (by simp) (by simp) (by simp) (by simp) (by simp)
 |succ n ih=>
  intro v a h;cases hb:Go.AM.isAgg a with
  |false=>
   unfold kh at h;split at h<;>simp_all
   ·exact .int
   ·exact .bool
   ·exact .str h
   ·exact .yz
   ·exact .imm0
   ·exact .nilp
   ·exact .nilf
   ·exact .nilm
   ·rename_i f a b m;obtain⟨⟨h1,h2⟩,rfl⟩:=h;exact .fn (fun _=>undef) (fun _=>undef) (by simp) (by simp) (by simp) (by simp) (by simp) (by simp)
   simp[Go.AM.isAgg]at hb
  |true=>
   obtain⟨cs,rfl⟩:=mh hb;cases v<;>first|(simp[kh]at h;done)|skip
   rename_i vs;have h':(vs.size==cs.length&&(vs.toList.zip cs).all fun p=>p.1.oneCell'&&kh M.fm n p.1 p.2)=true:=h;simp only[acz,afE,afz]at h';obtain⟨h1,h2⟩:=h';have key:∀i (hi:i<cs.length),∃x,vs[i]?=some x∧x.oneCell'=true∧kh M.fm n x cs[i]=true:=fun i hi=>by
    have hi':i<vs.size:=by omega
    refine⟨vs[i],by simp[hi'],?_⟩;have hm:(vs[i],cs[i])∈vs.toList.zip cs:=by
     rw[ati];exact⟨i,by simp;omega,by simp⟩
    exact h2 _ hm
   refine .agg (fun i=>vs.getD i undef) h1 (fun i hi=>?_) (fun i hi=>?_) (fun i hi=>?_)
   ·obtain⟨x,hx,h3,h4⟩:=key i hi;have:vs.getD i undef=x:=by simp[ala,hx]
    rw[this];exact⟨hx,h3⟩
   ·obtain⟨x,hx,h3,h4⟩:=key i hi;exact (ih h4).small h3
   obtain⟨x,hx,h3,h4⟩:=key i hi;have:vs.getD i undef=x:=by simp[ala,hx]
   rw[this];exact ih h4
def nD(M:bw)(w:World)(c:bv)(cs:List aa)(A:Array Value):Prop:=
 A.size=cs.length∧∀j (h:j<cs.length),∃x,A[j]?=some x∧x.oneCell'=true∧R M w c cs[j] x
theorem nD.agg{c:bv}{cs:List aa}{A:Array Value}(h:nD M w c cs A):R M w c (.agg cs) (.agg A):=by
 refine .agg (fun j=>A.getD j undef) h.1 (fun j hj=>?_) (fun j hj=>?_) (fun j hj=>?_)
 ·obtain⟨x,h1,h2,_⟩:=h.2 j hj;have:A.getD j undef=x:=by simp[ala,h1]
  rw[this];exact⟨h1,h2⟩
 ·obtain⟨x,h1,h2,h3⟩:=h.2 j hj;exact h3.small h2
 obtain⟨x,h1,h2,h3⟩:=h.2 j hj;have:A.getD j undef=x:=by simp[ala,h1]
 rw[this];exact h3
theorem R.rcells{c:bv}{cs:List aa}{A:Array Value}(h:R M w c (.agg cs) (.agg A)):nD M w c cs A:=by
 cases h with
 |agg f h1 h2 h3 h4=>exact⟨h1,fun j hj=>⟨f j,(h2 j hj).1,(h2 j hj).2,h4 j hj⟩⟩
theorem DV(off:Nat):∀(l:List Value) (n:Nat) (A:Array Value),
  ((l.zipIdx n).foldl (fun cs p=>cs.setIfInBounds (off+p.2) p.1) A).size=A.size ∧
  ∀j,((l.zipIdx n).foldl (fun cs p=>cs.setIfInBounds (off+p.2) p.1) A)[j]?=if off+n≤j∧j<off+n+l.length∧j<A.size then l[j-(off+n)]? else A[j]?
 |[],n,A=>⟨rfl,fun j=>by rw[if_neg (by rintro⟨h1,h2,_⟩;simp at h2;omega)];rfl⟩
 |v::l,n,A=>by
  obtain⟨h1,h2⟩:=DV off l (n+1) (A.setIfInBounds (off+n) v);simp only[avh,ahw];refine⟨by rw[h1];simp,fun j=>?_⟩;rw[h2 j];simp only[avD,aiG];by_cases hj:off+(n+1)≤j∧j<off+(n+1)+l.length∧j<A.size
  ·rw[if_pos hj,if_pos (by omega),show j-(off+n)=(j-(off+(n+1)))+1 by omega];simp
  rw[if_neg hj,atr];by_cases hj2:off+n=j
  ·subst hj2;by_cases hs:off+n<A.size
   ·rw[if_pos rfl,if_pos hs,if_pos ⟨by omega,by omega,hs⟩];simp
   rw[if_pos rfl,if_neg hs,if_neg (by omega)];simp;omega
  rw[if_neg hj2,if_neg (by omega)]
theorem ach(off:Nat)(l A:Array Value) :
  (l.zipIdx.foldl (fun cs (c,j)=>cs.setIfInBounds (off+j) c) A).size=A.size ∧
  ∀j,(l.zipIdx.foldl (fun cs (c,j)=>cs.setIfInBounds (off+j) c) A)[j]?=if off≤j∧j<off+l.size∧j<A.size then l[j-off]? else A[j]?:=by
 have h:=DV off l.toList 0 A;have e:l.zipIdx.foldl (fun cs (c,j)=>cs.setIfInBounds (off+j) c) A=(l.toList.zipIdx 0).foldl (fun cs p=>cs.setIfInBounds (off+p.2) p.1) A:=by
  rw[←Array.foldl_toList];simp
 rw[e];simpa using h
theorem abS{c:bv}(place:Nat→Option (Nat×Nat)):∀(ps:List (Nat×Value)) (es0:List (Nat×Nat×aa)) (zero cs:List aa) (A:Array Value),nD M w c zero A→ps.length=es0.length →
  (∀i (h:i<ps.length) (h':i<es0.length),place ps[i].1=some (es0[i].1,es0[i].2.1)∧R M w c es0[i].2.2 ps[i].2)→fill zero es0=some cs →
  ∃B,Instr.fill place A ps=some B∧nD M w c cs B
 |[],[],zero,cs,A,h,_,_,hf=>by cases hf;exact⟨A,rfl,h⟩
 |[],_::_,_,_,_,_,hl,_,_=>by simp at hl
 |_::_,[],_,_,_,_,hl,_,_=>by simp at hl
 |(i,cv)::ps,(off,s,v)::es0,zero,cs,A,h,hl,hr,hf=>by
  simp only[fill]at hf;split at hf
  ·rename_i hc;obtain⟨h1,h2,h3⟩:=hc;have h0:=hr 0 (by simp) (by simp);simp only[ata]at h0;obtain⟨g,hg,hgs,hgc⟩:=oo h0.2 (by omega);obtain⟨z1,z2⟩:=ach off cv.cells A;have hv:=kI (v:=v) (by omega);have hlen:(zero.take off++cellsOf v++zero.drop (off+s)).length=zero.length:=by simp;omega
   have hnew:nD M w c (zero.take off++cellsOf v++zero.drop (off+s)) (cv.cells.zipIdx.foldl (fun cs (c,j)=>cs.setIfInBounds (off+j) c) A):=by
    refine⟨by rw[z1,h.1,hlen],fun j hj=>?_⟩;rw[hlen]at hj;rw[z2 j];by_cases hj1:j<off
    ·rw[if_neg (by omega)];obtain⟨x,x1,x2,x3⟩:=h.2 j hj;refine⟨x,x1,x2,?_⟩;rw[amd (by simp;omega),amd (by simp;omega)];simpa using x3
    by_cases hj2:j<off+s
    ·rw[if_pos ⟨by omega,by omega,by rw[h.1];exact hj⟩,hgc _ (by omega)];refine⟨_,rfl,hg.one _ (by omega),?_⟩;have:=hg.rel (j-off) (by omega);rw[amd (by simp;omega),arK (by simp;omega)];simp only[al4];have e:j-min off zero.length=j-off:=by rw[atw (by omega)]
     simpa [e] using this
    rw[if_neg (by omega)];obtain⟨x,x1,x2,x3⟩:=h.2 j hj;refine⟨x,x1,x2,?_⟩;rw[arK (by simp;omega)];simp only[atM,aog,al4];have e:off+s+(j-(min off zero.length+(cellsOf v).length))=j:=by rw[atw (by omega)];omega
    simpa [e] using x3
   obtain⟨B,hB,hB2⟩:=abS place ps es0 _ cs _ hnew (by simpa using hl) (fun i hi hi'=>by have:=hr (i+1) (by simpa using hi) (by simpa using hi');simpa using this) hf;refine⟨B,?_,hB2⟩;simp only[Instr.fill,h0.1];rw[if_neg]
   ·exact hB
   have e1:cv.cells.size=s:=by omega
   have e2:=h.1;simp[e1];omega
  cases hf
theorem Hv(k:Nat):∀(cvs:List Value) (s:Nat) (A:Array Value),(∀v∈cvs,v.cells.size=k)→(s+cvs.length)*k≤A.size →
  ∃B,Instr.fill (fun i=>some (i*k,k)) A ((List.range' s cvs.length).zip cvs)=some B∧B.size=A.size ∧
   ∀p,B[p]?=if s*k≤p∧p<(s+cvs.length)*k then (cvs.flatMap fun v=>v.cells.toList)[p-s*k]? else A[p]?
 |[],s,A,_,_=>⟨A,rfl,rfl,fun p=>by rw[if_neg (by simp)]⟩
 |v::cvs,s,A,h1,h2=>by
  have hv:=h1 v (aoQ ..);obtain⟨z1,z2⟩:=ach (s*k) v.cells A;simp only[aiG]at h2;have hmul:(s+(cvs.length+1))*k=(s+1+cvs.length)*k:=by congr 1;omega
  have hm2:(s+1)*k=s*k+k:=by rw[atx];omega
  have hm3:(s+1)*k≤(s+1+cvs.length)*k:=arf k (by omega);obtain⟨B,b1,b2,b3⟩:=Hv k cvs (s+1) (v.cells.zipIdx.foldl (fun cs (c,j)=>cs.setIfInBounds (s*k+j) c) A) (fun x hx=>h1 x (aer _ hx)) (by rw[z1];omega);refine⟨B,?_,by rw[b2,z1],fun p=>?_⟩
  ·rw[show (List.range' s (v::cvs).length)=s::List.range' (s+1) cvs.length by simp[avR]];simp only[auB,Instr.fill];rw[if_neg]
   ·exact b1
   simp[hv];omega
  rw[b3 p,z2 p];simp only[aiG,atE,hv];by_cases hp:(s+1)*k≤p∧p<(s+1+cvs.length)*k
  ·rw[if_pos hp,if_pos (by omega),arD (by simp;omega)];congr 1;simp;omega
  rw[if_neg hp];by_cases hq:s*k≤p∧p<s*k+k
  ·rw[if_pos ⟨by omega,by omega,by omega⟩,if_pos (by omega),arw (by simp;omega)];simp
  rw[if_neg (by omega),if_neg (by omega)]
end Go.AM
namespace Go.AM
variable {M:bw} {w:World} {P:Program}
theorem na{op:BinOp}{k:IntKind}{x y n:Int}(h:intBits op k x y=some n):(Op.intBits op k x y).run P w=.ok (.int k n) w:=by
 cases op<;>simp only[intBits]at h<;>first|(cases h;done)|(injection h with h;subst h;rfl)
theorem RN{c:bv}{op:BinOp}{T:TypeId}{k:IntKind}{a b:Int}{v:aa}(hop:op≠.shl∧op≠.shr)(h:K7 op k a b=some v) :
  ∃cv,(binOp op T (.int k a) (.int k b)).run P w=.ok cv w∧R M w c v cv:=by
 cases op<;>simp[K7]at h hop<;>simp only[binOp,ne_eq,av1,ali]
 case quo=>obtain⟨h1,rfl⟩:=h;exact⟨_,by simp only[Op.intDiv,h1,ali];rfl,.int⟩
 case rem=>obtain⟨h1,rfl⟩:=h;exact⟨_,by simp only[Op.intDiv,h1,ali];rfl,.int⟩
 case and=>obtain⟨n,h1,rfl⟩:=h;exact⟨_,na h1,.int⟩
 case or=>obtain⟨n,h1,rfl⟩:=h;exact⟨_,na h1,.int⟩
 case xor=>obtain⟨n,h1,rfl⟩:=h;exact⟨_,na h1,.int⟩
 case andNot=>obtain⟨n,h1,rfl⟩:=h;exact⟨_,na h1,.int⟩
 all_goals subst h;first|exact⟨_,rfl,.int⟩|exact⟨_,rfl,.bool⟩|(refine⟨.bool _,?_,.bool⟩;simp[Op.intCmp])
theorem JJ{c:bv}{op:BinOp}{T:TypeId}{k k':IntKind}{a b:Int}{v:aa}(h:shift op k a b=some v) :
  ∃cv,(binOp op T (.int k a) (.int k' b)).run P w=.ok cv w∧R M w c v cv:=by
 unfold shift at h;split at h
 ·cases h
 rename_i hb;cases op<;>simp at h<;>subst h
 ·exact⟨_,by simp only[binOp,Op.shift,hb,ali];rfl,.int⟩
 exact⟨_,by simp only[binOp,Op.shift,hb,ali];rfl,.int⟩
theorem Zi{s t:ByteArray}:(s.toList==t.toList)=(s.data.toList==t.data.toList):=by
 rw[Go.ByteArray.toList_eq,Go.ByteArray.toList_eq]
theorem qF(op:BinOp)(T:TypeId)(x y:Operand){a b:Value}(h:(∃k n,a=.int k n)∨(∃s,a=.string s)∨(∃t,a=.bool t)):(eqGuard op T x y a b).run P w=.ok () w:=by
 rcases h with⟨k,n,rfl⟩|⟨s,rfl⟩|⟨t,rfl⟩<;>cases op<;>rfl
theorem afh{c:bv}{op:UnOp}{x v:aa}{cx:Value}(hx:R M w c x cx)(h:una op x=some v):∃cv,(Op.unary op cx).run P w=.ok cv w∧R M w c v cv:=by
 unfold una at h;split at h
 ·cases hx;cases h;exact⟨_,by simp only[Op.unary,Op.intArith];rfl,.int⟩
 ·cases hx;simp only[aiu]at h;obtain⟨n,h1,rfl⟩:=h;exact⟨_,by simp only[Op.unary];exact na h1,.int⟩
 ·cases hx;cases h;exact⟨_,rfl,.bool⟩
 cases h
theorem aK{T:TypeId}{d:TypeDesc}(h:P.underlying T=some d)(w:World):(underlying T).run P w=.ok d w:=by
 unfold underlying;simp[h]
theorem acJ{c:bv}{S T:TypeId}{k k':IntKind}{n:Int}{d:TypeDesc}(hS:P.underlying S=some d)(hT:P.underlying T=some (.int k))(hd:∃j,d=.int j) :
  (convert S T (.int k' n)).run P w=.ok (.int k (k.wrap n)) w:=by
 obtain⟨j,rfl⟩:=hd;unfold convert;simp only[Sem.run_bind,aK hS,aK hT,Result.andThen_ok];rfl
end Go.AM
namespace Go.AM
variable {M:bw} {w:World} {P:Program}
def bv.older(c:bv)(σ:ah)(id:Nat)(p:Option Nat)(room:Nat):bv:=
 { c with H:=hd σ,place:=fun i=>if i=id then p else c.place i,room:=fun i=>if i=id then room else c.room i }
theorem fL{σ:ah}{o:Obj}{id i:Nat}(h:i≠id):hd (σ.set id o) i=hd σ i:=by
 unfold hd;rw[atz (fun e=>h e.symm)]
theorem cO.older{c:bv}{σ:ah}(hs:cO M w c σ){id k ep:Nat}{es es':List aa}(ho:σ[id]?=some (.arr k ep es)){p:Option Nat}{room:Nat}{w':World}
  (hw:∀b,b<w.heap.size→c.place id≠some b→w'.heap[b]?=w.heap[b]?) (hz:w.heap.size≤w'.heap.size) (hsame:Same w w')
  (hp:∀b,p=some b→c.place id=some b∨(w.heap.size≤b∧b<w'.heap.size))
  (hobj:Ext c w (c.older (σ.set id (.arr k (ep+1) es')) id p room) w'→wg M w' (c.older (σ.set id (.arr k (ep+1) es')) id p room) id (.arr k (ep+1) es')) :
  cO M w' (c.older (σ.set id (.arr k (ep+1) es')) id p room) (σ.set id (.arr k (ep+1) es'))∧fK c w (c.older (σ.set id (.arr k (ep+1) es')) id p room) w':=by
 have hlt:id<σ.length:=(aaN.1 ho).1;have hself:(σ.set id (.arr k (ep+1) es'))[id]?=some (.arr k (ep+1) es'):=at7 hlt;have hH:c.H id=.arr k ep:=by rw[hs.H,cU ho]
 have hlive:c.H id≠.dead:=by rw[hH];simp
 have hext:Ext c w (c.older (σ.set id (.arr k (ep+1) es')) id p room) w':=by
  refine⟨fun _ h=>h,fun _ h=>h,fun b hb=>hw b ?_ fun e=>?_,aes _,fun i hi=>?_,fun i hi hq _=>?_⟩
  ·exact hs.low b (hb.elim (fun h=>h) (hs.sb b))
  ·exact (hs.plow id b hlive e).2 (hb.elim (fun h=>h) (hs.sb b))
  ·by_cases hii:i=id
   ·subst hii;refine .inr (.inr ⟨k,ep,ep+1,hH,?_,Nat.lt_succ_self _⟩);show hd _ i=_;rw[cU hself]
   left;show c.H i=hd _ i;rw[fL hii,hs.H]
  have hii:i≠id:=fun e=>by
   subst e;have:(c.older (σ.set i (.arr k (ep+1) es')) i p room).H i=.arr k (ep+1):=by
    show hd _ i=_;rw[cU hself]
   rw[this,hH]at hq;cases hq
  simp[bv.older,hii]
 have hstp:fK c w (c.older (σ.set id (.arr k (ep+1) es')) id p room) w':=
  { hext with
   same:=hsame
   size:=hz
   frame:=fun b hb hn=>hw b hb (hn id hlive)
   old:=fun _ h _=>.inl h
   oldb:=fun _ h _=>.inl h
   liv:=fun i b h1 h2 hb=>by
    simp only[bv.older]at h1 h2;split at h2
    ·rcases hp b h2 with h|h
     ·exact⟨id,hlive,h⟩
     omega
    rename_i hii;exact⟨i,by rw[hs.H];rwa [fL hii]at h1,h2⟩ }
 refine⟨⟨rfl,by rw[show (c.older _ id p room).N=c.N from rfl,hs.N];simp,hs.sb,fun b hb=>aju (hs.low b hb) hz,fun i b h1 h2=>?_,fun i j b hi hj hbi hbj=>?_,fun i o hio=>?_⟩,hstp⟩
 ·simp only[bv.older]at h1 h2 ⊢;split at h2
  ·rcases hp b h2 with h|h
   ·obtain⟨a1,a2⟩:=hs.plow id b hlive h;exact⟨aju a1 hz,a2⟩
   exact⟨h.2,fun hb=>absurd (hs.low b hb) (by omega)⟩
  rename_i hii;rw[fL hii,←hs.H]at h1;obtain⟨a1,a2⟩:=hs.plow i b h1 h2;exact⟨aju a1 hz,a2⟩
 ·simp only[bv.older]at hi hj hbi hbj;split at hbi
  ·split at hbj
   ·omega
   rename_i h1 h2;rw[fL h2,←hs.H]at hj;rcases hp b hbi with h|h
   ·exact absurd (hs.inj id j b hlive hj h hbj) (fun e=>h2 e.symm)
   have:=(hs.plow j b hj hbj).1;omega
  rename_i h1;rw[fL h1,←hs.H]at hi;split at hbj
  ·rcases hp b hbj with h|h
   ·exact absurd (hs.inj id i b hlive hi h hbi) (fun e=>h1 e.symm)
   have:=(hs.plow i b hi hbi).1;omega
  rename_i h2;rw[fL h2,←hs.H]at hj;exact hs.inj i j b hi hj hbi hbj
 by_cases hii:i=id
 ·subst hii;rw[hself]at hio;cases hio;exact hobj hext
 rw[atz (fun e=>hii e.symm)]at hio;refine (hs.obj i o hio).ext hext (fun _=>by simp[bv.older,hii]) fun hnd b hb=>hw b ?_ fun e=>?_
 ·exact (hs.plow i b (by rw[hs.H];exact fun h=>hnd ((mI hio).1 h)) hb).1
 exact hii (hs.inj i id b (by rw[hs.H];exact fun h=>hnd ((mI hio).1 h)) hlive hb e)
theorem WideB.bytes_inj'{a b:ByteArray}(h:a.data=b.data):a=b:=by cases a;cases b;cases h;rfl
def kw(M:bw)(w:World)(c:bv)(k:Nat)(ys:List aa)(A:Array Value):Prop:=
 A.size=ys.length*k∧∃f:Nat→Nat→Value,(∀i j,i<ys.length→j<k→A[i*k+j]?=some (f i j)∧(f i j).oneCell'=true) ∧
  ∀i (hi:i<ys.length) j (hj:j<(cellsOf ys[i]).length),R M w c (cellsOf ys[i])[j] (f i j)
theorem kw.ext{c c':bv}{w':World}{k:Nat}{ys:List aa}{A:Array Value}(h:kw M w c k ys A)(he:Ext c w c' w'):kw M w' c' k ys A:=
 let ⟨h1,f,h2,h3⟩:=h
 ⟨h1,f,h2,fun i hi j hj=>(h3 i hi j hj).ext he⟩
theorem kw.nil{c:bv}{k:Nat}:kw M w c k [] #[]:=⟨by simp,fun _ _=>undef,fun i j hi=>absurd hi (by simp),fun i hi=>absurd hi (by simp)⟩
theorem nE{i j k n:Nat}(hi:i<n)(hj:j<k):i*k+j<n*k:=by
 have:(i+1)*k≤n*k:=arf k hi;rw[atx]at this;omega
theorem Ew{c:bv}{k n:Nat}(hk:k≠0){b o:Nat}{ys:List aa}(hn:ys.length=n)(f:Nat→Nat→Value)
  (hc:∀i j,i<n→j<k→w.cell? ⟨b,o+i*k+j,none⟩=some (f i j)∧(f i j).oneCell'=true)
  (hr:∀i (hi:i<ys.length) j (hj:j<(cellsOf ys[i]).length),R M w c (cellsOf ys[i])[j] (f i j)) :
  ∃A,kw M w c k ys A∧∀w',w'.heap=w.heap→(loadCells ⟨b,o,none⟩ (n*k)).run P w'=.ok A w':=by
 have hcell:∀w':World,w'.heap=w.heap→∀p,p<n*k→w'.cell? ((⟨b,o,none⟩:Addr).add p)=some (f (p/k) (p%k)):=fun w' hw p hp=>by
  rw[gT];have h1:p/k<n:=(avf (aul hk)).2 hp;have h2:p%k<k:=Nat.mod_lt _ (aul hk);have:=(hc (p/k) (p%k) h1 h2).1;have e:o+p/k*k+p%k=o+p:=by have:=avW p k;rw[aux]at this;omega
  rw[e]at this;simp only[World.cell?,hw]at this ⊢;exact this
 refine⟨_,⟨?_,f,fun i j hi hj=>⟨?_,(hc i j (hn▸hi) hj).2⟩,hr⟩,fun w' hw=>run_loadCells w' _ (n*k) (fun p=>f (p/k) (p%k)) (hcell w' hw)⟩
 ·simp[hn]
 have hlt:=nE (n:=n) (hn▸hi) hj;have e1:(i*k+j)/k=i:=by rw[aux,Nat.mul_add_div (aul hk),Nat.div_eq_of_lt hj];omega
 have e2:(i*k+j)%k=j:=by rw[aux,avq,avk hj]
 simp[hlt,e1,e2]
theorem akW{c:bv}{σ:ah}(hs:cO M w c σ){y:aa}{cy:Value}(hy:R M w c y cy){ys:List aa}(h:rd σ y=some ys){k:Nat}(hk:k≠0)(hall:∀x∈ys,aw x=k) :
  (∀w',(Builtin.lenOf cy).run P w'=.ok ys.length w')∧∃A,kw M w c k ys A∧∀w',w'.heap=w.heap→(Builtin.firstCells k ys.length cy).run P w'=.ok A w':=by
 cases hy with
 |any=>simp[rd]at h
 |int=>simp[rd]at h
 |bool=>simp[rd]at h
 |@emp _ _ cap a _=>
  simp only[rd,afV]at h;subst h;refine⟨fun w'=>rfl,#[],kw.nil,fun w' _=>?_⟩;cases a<;>simp[Builtin.firstCells,loadCells,loadCellsFrom]
 |nilp=>simp[rd]at h
 |nilf=>simp[rd]at h
 |nilm=>simp[rd]at h
 |agg=>simp[rd]at h
 |tup=>simp[rd]at h
 |ptr=>simp[rd]at h
 |ptrOld=>simp[rd]at h
 |cptr=>simp[rd]at h
 |asl=>simp[rd]at h
 |aslOld=>simp[rd]at h
 |fn=>simp[rd]at h
 |imap=>simp[rd]at h
 |mp=>simp[rd]at h
 |mpOld=>simp[rd]at h
 |yld=>simp[rd]at h
 |yldOld=>simp[rd]at h
 |@str _ s t ht=>
  simp only[rd,afV]at h;subst h ht;have hsz:t.data.toList.length=t.size:=by simp
  simp only[ajk,hsz];refine⟨fun w'=>rfl,(t.data.map fun b=>Value.int .u8 b.toNat),?_,fun w' _=>?_⟩
  rotate_left 1
  ·have hx:t.extract 0 t.size=t:=by
    apply WideB.bytes_inj';simp
   simp only[Builtin.firstCells,hx];rfl
  by_cases h0:t.data.toList=[]
  ·have e:t.data=#[]:=by rw[←Array.toList_eq_nil_iff];exact h0
   rw[h0,e];simpa using kw.nil
  have hk1:k=1:=by
   obtain⟨x,hx⟩:=atc _ h0;exact (hall _ (avt hx)).symm
  subst hk1;refine⟨by simp,fun i _=>Value.int .u8 (t.data.getD i 0).toNat,fun i j hi hj=>?_,fun i hi j hj=>?_⟩
  ·have:j=0:=by omega
   subst this;have hi':i<t.data.size:=by simpa using hi
   have e:t.data[i]?=some t.data[i]:=by simp
   simp[e,Value.oneCell']
  have hi':i<t.data.size:=by simpa using hi
  simp only[atf,cellsOf,aiG,ak3]at hj ⊢;have:j=0:=by omega
  subst this;have e:t.data[i]?=some t.data[i]:=by simp
  simp[e];exact .int
 |@wh _ b xs cap a K f h1 h2 h3 h4 h5 h6 h7=>
  simp only[rd,afV]at h;subst h;refine⟨fun w'=>rfl,?_⟩;by_cases h0:xs=[]
  ·subst h0;exact⟨#[],kw.nil,fun w' hw=>by simp[Builtin.firstCells,loadCells,loadCellsFrom]⟩
  have hK:K=k:=by
   obtain⟨x,hx⟩:=atc _ h0;rw[←h5 x hx,hall x hx]
  subst hK;obtain⟨blk,o,sp⟩:=a;simp only at h2;subst h2;exact Ew hk rfl f h6 (fun i hi j hj=>(h7 i hi j hj).ext (Ext.ofStill hs.sb _))
 |@imm0 _ b cap a=>
  simp only[rd,afV]at h;subst h;exact⟨fun w'=>rfl,#[],kw.nil,fun w' hw=>by cases a<;>simp[Builtin.firstCells,loadCells,loadCellsFrom]⟩
 |@lst _ xs cap a K f h1 h2 h3 h4 h5 h6 h7=>
  simp only[rd,afV]at h;subst h;refine⟨fun w'=>rfl,?_⟩;by_cases h0:xs=[]
  ·subst h0;exact⟨#[],kw.nil,fun w' hw=>by simp[Builtin.firstCells,loadCells,loadCellsFrom]⟩
  have hK:K=k:=by
   obtain⟨x,hx⟩:=atc _ h0;rw[←h5 x hx,hall x hx]
  subst hK;obtain⟨blk,o,sp⟩:=a;simp only at h2;subst h2;exact Ew hk rfl f h6 h7
 |@lst0 _ cap a=>
  simp only[rd,afV]at h;subst h;exact⟨fun w'=>rfl,#[],kw.nil,fun w' hw=>by cases a<;>simp[Builtin.firstCells,loadCells,loadCellsFrom]⟩
 |@yz _ a=>
  simp only[rd,afV]at h;subst h;exact⟨fun w'=>rfl,#[],kw.nil,fun w' hw=>by cases a<;>simp[Builtin.firstCells,loadCells,loadCellsFrom]⟩
 |@sl _ id ep off len cap k' blk h1 h2 h3 h4 h5=>
  obtain⟨k2,es,ho,hl,rfl⟩:=kK h;have hH:c.H id=.arr k2 ep:=by rw[hs.H,cU ho]
  have hkk:k'=k2:=by rw[hH]at h2;cases h2;rfl
  subst hkk;obtain⟨o1,o2,o3,o4⟩:=hs.obj id _ ho;obtain⟨cs,T,F,q1,q2,q3,q4,q5⟩:=o4 blk h3;have hlen:((es.drop off).take len).length=len:=by simp;omega
  rw[hlen];refine⟨fun w'=>rfl,?_⟩;by_cases h0:len=0
  ·subst h0;exact⟨#[],by simp;exact kw.nil,fun w' hw=>by simp[Builtin.firstCells,loadCells,loadCellsFrom]⟩
  have hK:k'=k:=by
   have hm:((es.drop off).take len)[0]'(by omega)∈(es.drop off).take len:=agL _;rw[←hall _ hm];exact (o2 _ (asW (akt hm))).symm
  subst hK;refine Ew (o:=off*k') hk hlen (fun i j=>F (off+i) j) (fun i j hi hj=>?_) (fun i hi j hj=>?_)
  ·obtain⟨a1,a2⟩:=q4 (off+i) j (by omega) hj;refine⟨?_,a2⟩;simp only[World.cell?,q1];rw[show off*k'+i*k'+j=(off+i)*k'+j by rw[atx]];exact a1
  rw[hlen]at hi;have e:((es.drop off).take len)[i]'(by rw[hlen];exact hi)=es[off+i]'(by omega):=by simp
  have hj':j<(cellsOf (es[off+i]'(by omega))).length:=by rw[←e];exact hj
  have:=q5 (off+i) (by omega) j hj';simp only[atK,atM];exact this
 |@sl0 _ id ep off k' a h1 h2=>
  obtain⟨k2,es,ho,hl,rfl⟩:=kK h;simp only[List.take_zero,ak3];exact⟨fun w'=>rfl,#[],kw.nil,fun w' hw=>by cases a<;>simp[Builtin.firstCells,loadCells,loadCellsFrom]⟩
 |@slOld _ id ep off len v h0 h1 h2 h3 h4=>
  obtain⟨k2,es,ho,hl,rfl⟩:=kK h;have hH:c.H id=.arr k2 ep:=by rw[hs.H,cU ho]
  exact absurd (h2 _ _ hH) (ato _)
theorem JH(n:Nat):∀(r c:Nat),c≤2*n+192→Builtin.growBy n r c≤2*n+192
 |0,c,h=>h
 |r+1,c,h=>by
  simp only[Builtin.growBy];split
  ·exact h
  exact JH n r _ (by omega)
theorem uD{n c:Nat}(h:c<n):Builtin.nextslicecap n c≤2*n+192:=by
 unfold Builtin.nextslicecap;split
 ·omega
 split
 ·omega
 exact JH n 4 c (by omega)
structure aa5 (P:Program) (T U:TypeId) (k:Nat):Prop where
 ex:∃(e:TypeId) (i:TypeInfo) (z:Value) (d:TypeDesc),P.underlying T=some (.slice e)∧P.info? e=some i∧i.size=k∧i.zero=some z∧z.cells.size=k∧i.bytes≤1024∧i.bytes≠0 ∧
  P.underlying U=some d∧(∀q,d≠.int q)
 k0:k≠0
theorem Yr{c:bv}{σ:ah}(hs:cO M w c σ){x:aa}{cx:Value}(hx:R M w c x cx)(h:Ah σ x=true):∃a n cap,cx=.slice a n cap∧n≤cap:=by
 cases hx with
 |wh K f h1 h2 h3=>exact⟨_,_,_,rfl,h3⟩
 |imm0=>exact⟨_,_,_,rfl,amn _⟩
 |lst K f h1 h2 h3=>exact⟨_,_,_,rfl,h3⟩
 |lst0=>exact⟨_,_,_,rfl,amn _⟩
 |yz=>exact⟨_,_,_,rfl,amn _⟩
 |sl h1 h2 h3 h4=>exact⟨_,_,_,rfl,h4⟩
 |sl0=>exact⟨_,_,_,rfl,amn _⟩
 |slOld h0 h1 h2 h3 h4=>
  simp only[Ah,fresh]at h;split at h
  ·rename_i k e es he;have hH:=cU he;rw[←hs.H]at hH;have:=h2 _ _ hH;simp at h;omega
  cases h
 |_=>simp[Ah]at h
theorem NT{T U ty:TypeId}{k:Nat}(ht:aa5 P T U k){a:Option Addr}{n cap m:Nat}{cy:Value}{A:Array Value}{w':World}(hl:(Builtin.lenOf cy).run P w=.ok m w)(hf:(Builtin.firstCells k m cy).run P w=.ok A w)(hroom:n+m≤cap)
  (hst:∀b,a=some b→(storeCells (b.add (n*k)) A.toList).run P w=.ok () w') (hn:a=none→w'=w) :
  (Builtin.append_ #[T,U] ty #[.slice a n cap,cy]).run P w=.ok (.slice a (n+m) cap) w':=by
 obtain⟨⟨e,i,z,d,h1,h2,h3,h4,hzc,h5,h6,h7,h8⟩,hk⟩:=ht;have hd:(match d with|.int _=>true|_=>false)=false:=by cases d<;>first|rfl|exact absurd rfl (h8 _)
 cases a with
 |none=>
  obtain rfl:=hn rfl;simp[Builtin.append_,aK h1,aK h7,sizeOf,typeInfo,h2,h3,hd,hl,hf,hroom]
 |some b=>
  have:=hst b rfl;simp[Builtin.append_,aK h1,aK h7,sizeOf,typeInfo,h2,h3,hd,hl,hf,hroom,this]
theorem MZ{T U ty:TypeId}{k:Nat}(ht:aa5 P T U k){a:Option Addr}{n cap m:Nat}{cy:Value}{A B:Array Value}(hl:(Builtin.lenOf cy).run P w=.ok m w)
  (hf:∀w',w'.heap=w.heap→(Builtin.firstCells k m cy).run P w'=.ok A w') (ho:∀w',w'.heap=w.heap→(Builtin.firstCells k n (.slice a n cap)).run P w'=.ok B w') (hroom:cap<n+m) (hbig:n+m≤most) :
  ∃(cap':Nat) (T':TypeId) (C:Array Value) (w1:World),w1.heap=w.heap∧Same w w1∧n+m≤cap'∧C.size=(cap' - (n+m))*k ∧
   (Builtin.append_ #[T,U] ty #[.slice a n cap,cy]).run P w=.ok (.slice (some ⟨w.heap.size,0,none⟩) (n+m) cap') (iH w1 (.cells (B++A++C) T' (0,0))):=by
 obtain⟨⟨e,i,z,d,h1,h2,h3,h4,hzc,h5,h6,h7,h8⟩,hk⟩:=ht;have hd:(match d with|.int _=>true|_=>false)=false:=by cases d<;>first|rfl|exact absurd rfl (h8 _)
 have hm:most=68719476736:=rfl;have hn:¬(n+m≤cap):=by omega
 have h63':¬(9223372036854775807<((n:Int)+(m:Int))):=by omega
 have h48':¬(281474976710656<Builtin.nextslicecap (n+m) cap*i.bytes):=by
  have a1:=uD hroom;have a2:Builtin.nextslicecap (n+m) cap*i.bytes≤(2*(n+m)+192)*1024:=Nat.mul_le_mul a1 h5;omega
 have hf':=hf w.drew rfl;have ho':=ho w.drew rfl;refine⟨(Question.appendCap (n+m) cap e).cut (w.tape w.drawn (.appendCap (n+m) cap e)),e,Builtin.zeroCells z.cells ((Question.appendCap (n+m) cap e).cut (w.tape w.drawn (.appendCap (n+m) cap e))-(n+m)),w.drew,rfl,⟨rfl,rfl,rfl,atB w.drawn⟩,?_,?_,?_⟩
 rotate_left 2
 ·simp[Builtin.append_,aK h1,aK h7,sizeOf,typeInfo,zeroValue,h2,h3,h4,hl,hn,h63',h48',Question.forced,hf',ho',newRow];rfl
 ·simp[Question.cut]
 simp[Builtin.zeroCells,hzc]
theorem kw.append{c:bv}{k:Nat}{xs ys:List aa}{A B:Array Value}(ha:kw M w c k xs A)(hb:kw M w c k ys B):kw M w c k (xs++ys) (A++B):=by
 obtain⟨a1,f,a2,a3⟩:=ha;obtain⟨b1,g,b2,b3⟩:=hb;refine⟨by simp[a1,b1,atx],fun i j=>if i<xs.length then f i j else g (i-xs.length) j,fun i j hi hj=>?_,fun i hi j hj=>?_⟩
 ·dsimp only;by_cases h:i<xs.length
  ·rw[if_pos h,atu (by rw[a1];exact nE h hj)];exact a2 i j h hj
  rw[if_neg h,auD (by rw[a1];have:xs.length*k≤i*k:=arf k (by omega);omega)];have:=b2 (i-xs.length) j (by simp at hi;omega) hj;rw[a1,show i*k+j-xs.length*k=(i-xs.length)*k+j by
   have:i*k=(i-xs.length)*k+xs.length*k:=by rw[←Nat.add_mul];congr 1;omega
   omega]
  exact this
 dsimp only;by_cases h:i<xs.length
 ·rw[if_pos h];have e:(xs++ys)[i]=xs[i]:=amd h;simp only[e]at hj ⊢;exact a3 i h j hj
 rw[if_neg h];have e:(xs++ys)[i]=ys[i-xs.length]'(by simp at hi;omega):=arK (by omega);simp only[e]at hj ⊢;exact b3 _ _ j hj
theorem fK.ofHeap{c:bv}{w':World}(e:w'.heap=w.heap)(hs:Same w w'):fK c w c w':=
 { Ext.heap e with same:=hs,size:=by rw[e];exact aes _,frame:=fun b _ _=>by rw[e],liv:=fun id b a1 a2 _=>⟨id,a1,a2⟩,old:=fun _ h _=>.inl h,oldb:=fun _ h _=>.inl h }
theorem aky{c:bv}{σ:ah}(hs:cO M w c σ){id k ep:Nat}{es es':List aa}(ho:σ[id]?=some (.arr k ep es)){A C:Array Value}{T:TypeId}(hk:k≠0)(hall:∀x∈es',aw x=k)(hr:kw M w c k es' A){n cap:Nat}(hn:es'.length=n)(hc:n≤cap)(hC:C.size=(cap-n)*k) :
  ∃c',cO M (iH w (.cells (A++C) T (0,0))) c' (σ.set id (.arr k (ep+1) es'))∧fK c w c' (iH w (.cells (A++C) T (0,0))) ∧
   R M (iH w (.cells (A++C) T (0,0))) c' (.sl id (ep+1) 0 n) (.slice (some ⟨w.heap.size,0,none⟩) n cap):=by
 obtain⟨f0,f,f1,f2⟩:=hr;have hlt:id<σ.length:=(aaN.1 ho).1
 obtain⟨h1,h2⟩:=hs.older ho (es':=es') (p:=some w.heap.size) (room:=(A++C).size) (w':=iH w (.cells (A++C) T (0,0))) (fun b hb _=>eT hb) (by rw[dq];omega) lV
  (fun b hb=>by cases hb;exact .inr ⟨aes _,by rw[dq];omega⟩) (fun hext=>by
   refine⟨hk,hall,fun hn=>by simp[bv.older]at hn,fun b hb=>?_⟩;have hb':b=w.heap.size:=by simp[bv.older]at hb;exact hb.symm
   subst hb';refine⟨A++C,T,f,pL,by simp[f0],by simp[bv.older],fun i j hi hj=>?_,fun i hi j hj=>(f2 i hi j hj).ext hext⟩;rw[atu (by rw[f0];exact nE hi hj)];exact f1 i j hi hj)
 refine⟨_,h1,h2,?_⟩;have hH:(c.older (σ.set id (.arr k (ep+1) es')) id (some w.heap.size) (A++C).size).H id=.arr k (ep+1):=by
  show hd _ id=_;rw[cU (at7 hlt)]
 have:=R.sl (M:=M) (w:=iH w (.cells (A++C) T (0,0))) (c:=c.older (σ.set id (.arr k (ep+1) es')) id (some w.heap.size) (A++C).size) (id:=id) (ep:=ep+1) (off:=0) (len:=n) (cap:=cap) (k:=k) (blk:=w.heap.size)
  (by rw[show (c.older _ id _ _).N=c.N from rfl,hs.N];exact hlt) hH (by simp[bv.older]) hc (by
   simp[bv.older,f0,hC,hn];rw[←Nat.add_mul];apply arf;omega)
 simpa using this
structure Zk (P:Program) (w:World) (T U ty:TypeId) (k:Nat) (cy:Value) (m:Nat) (A:Array Value):Prop where
 room:∀{a:Option Addr} {n cap:Nat} {w':World},n+m≤cap→(∀b,a=some b→(storeCells (b.add (n*k)) A.toList).run P w=.ok () w')→(a=none→w'=w) →
  (Builtin.append_ #[T,U] ty #[.slice a n cap,cy]).run P w=.ok (.slice a (n+m) cap) w'
 grow:∀{a:Option Addr} {n cap:Nat} {B:Array Value},(∀w',w'.heap=w.heap→(Builtin.firstCells k n (.slice a n cap)).run P w'=.ok B w')→cap<n+m→n+m≤most →
  ∃(cap':Nat) (T':TypeId) (C:Array Value) (w1:World),w1.heap=w.heap∧Same w w1∧n+m≤cap'∧C.size=(cap' - (n+m))*k ∧
   (Builtin.append_ #[T,U] ty #[.slice a n cap,cy]).run P w=.ok (.slice (some ⟨w.heap.size,0,none⟩) (n+m) cap') (iH w1 (.cells (B++A++C) T' (0,0)))
theorem DF{c:bv}{σ σ':ah}(hs:cO M w c σ){x v:aa}{cx cy:Value}(hx:R M w c x cx){ys:List aa}{k:Nat}(hk:k≠0)(h:append k x ys σ=some (v,σ'))
  {T U ty:TypeId} (hsrc:(∀y∈ys,aw y=k)→∃A,kw M w c k ys A∧Zk P w T U ty k cy ys.length A):ns M P c w (do pure (.value (←Builtin.append_ #[T,U] ty #[cx,cy]))) v σ':=by
 unfold append at h;split at h
 ·
  rename_i hys;split at h
  ·rename_i hsl;cases h;obtain⟨a,n,cap,rfl,hle⟩:=Yr hs hx hsl;have hy0:ys=[]:=ahc hys;subst hy0;obtain⟨A,r4,hap⟩:=hsrc (by simp);have hA:A=#[]:=by
    have:=r4.1;simp at this;exact this
   subst hA;have:=hap.room (a:=a) (n:=n) (cap:=cap) (w':=w) (by simpa using hle) (fun b _=>rfl) (fun _=>rfl);exact ns.quiet hs (by simpa using this) hx
  cases h
 rename_i hys;split at h
 ·rename_i hall;have hall':∀y∈ys,aw y=k:=by simpa [afz] using hall
  obtain⟨A,r4,hap⟩:=hsrc hall';cases x<;>simp only at h<;>first|(cases h;done)|skip
  case yz=>
   split at h
   ·rename_i hbig;cases h;cases hx with
    |@yz _ a=>
     obtain⟨cap',T',C,w1,e1,e2,e3,e4,e5⟩:=hap.grow (a:=a) (n:=0) (cap:=0) (B:=#[]) (fun w' _=>by cases a<;>simp[Builtin.firstCells,loadCells,loadCellsFrom]) (by omega) (by omega);have hs1:=hs.heap e1;obtain⟨f0,f,f1,f2⟩:=r4
     obtain⟨c',h1,h2,h3,h4,hsim,hstp⟩:=hs1.newArr (ep:=0) (T:=T') (es:=ys) (cs:=#[]++A++C) f hk hall' (by simp;omega)
      (fun i j hi hj=>by
       have:=f1 i j hi hj;rw[atu (by simp[f0];exact nE hi hj)];simpa using this)
      (fun i hi j hj=>(f2 i hi j hj).ext (.heap e1))
     have hz:w1.heap.size=w.heap.size:=by rw[e1]
     refine ns.of e5 hsim (fK.trans (fK.ofHeap e1 e2) hstp) ?_;have:=R.sl (M:=M) (w:=iH w1 (.cells (#[]++A++C) T' (0,0))) (c:=c') (id:=σ.length) (ep:=0) (off:=0) (len:=0+ys.length) (cap:=cap') (by omega) h2 h3 e3 (by rw[h4];simp[f0,e4];rw[←Nat.add_mul];apply arf;omega);simpa [hz] using this
   cases h
  case sl id ep off n=>
   split at h
   ·rename_i k' e es ho;split at h
    ·rename_i hcond;obtain⟨rfl,rfl,hle,rfl,hbig⟩:=hcond;cases h;have hlt:id<σ.length:=(aaN.1 ho).1;have hH:c.H id=.arr k' e:=by rw[hs.H,cU ho]
     obtain⟨o1,o2,o3,o4⟩:=hs.obj id _ ho;have hall2:∀x∈es.take n++ys,aw x=k':=fun x hx=>by
      rcases aoS.1 hx with h|h
      ·exact o2 x (akt h)
      exact hall' x h
     have hlen2:(es.take n++ys).length=n+ys.length:=by simp;omega
     have grow:∀(a:Option Addr) (cap:Nat),cap<n+ys.length→(∃B,kw M w c k' (es.take n) B∧∀w',w'.heap=w.heap→(Builtin.firstCells k' n (.slice a n cap)).run P w'=.ok B w') →
       ns M P c w (do pure (.value (←Builtin.append_ #[T,U] ty #[.slice a n cap,cy]))) (.sl id (e+1) 0 (n+ys.length)) (σ.set id (.arr k' (e+1) (es.take n++ys))):=fun a cap hroom ⟨B,hB,hBr⟩=>by
      obtain⟨cap',T',C,w1,e1,e2,e3,e4,e5⟩:=hap.grow (a:=a) (n:=n) (cap:=cap) hBr hroom hbig;have hs1:=hs.heap e1;obtain⟨c',h1,h2,h3⟩:=aky (T:=T') hs1 ho (es':=es.take n++ys) (A:=B++A) (C:=C) hk hall2 ((hB.append r4).ext (.heap e1)) hlen2 e3 e4;refine ns.of e5 h1 (fK.trans (fK.ofHeap e1 e2) h2) ?_;rw[e1]at h3;exact h3
     cases hx with
     |@sl _ _ _ _ _ cap k2 blk h1 h2 h3 h4 h5=>
      have hkk:k2=k':=by rw[hH]at h2;cases h2;rfl
      subst hkk;obtain⟨cs,T',F,q1,q2,q3,q4,q5⟩:=o4 blk h3;have hold:∃B,kw M w c k2 (es.take n) B∧∀w',w'.heap=w.heap→(loadCells ⟨blk,0*k2,none⟩ (n*k2)).run P w'=.ok B w':=
       Ew hk (by simp;omega) F (fun i j hi hj=>by
        obtain⟨a1,a2⟩:=q4 i j (by omega) hj;refine⟨?_,a2⟩;simp only[World.cell?,q1];rw[show 0*k2+i*k2+j=i*k2+j by omega];exact a1) (fun i hi j hj=>by
        have hi':i<n:=by simp at hi;omega
        have e:(es.take n)[i]=es[i]'(by omega):=by simp
        have hj':j<(cellsOf (es[i]'(by omega))).length:=by rw[←e];exact hj
        have:=q5 i (by omega) j hj';simp only[atK];exact this)
      by_cases hroom:n+ys.length≤cap
      ·obtain⟨f0,f,f1,f2⟩:=r4;have hcap:cap*k2≤cs.size:=by rw[←q3];simpa using h5
       have hfit:n*k2+ys.length*k2≤cs.size:=by
        rw[←Nat.add_mul];exact als (arf k2 hroom) hcap
       have hone:∀v∈A.toList,v.oneCell'=true:=fun v hv=>by
        obtain⟨p,hp,rfl⟩:=ati.1 hv;have hp':p<ys.length*k2:=by simpa [f0] using hp
        have hj:=Nat.mod_lt p (aul hk);have hi:p/k2<ys.length:=(avf (aul hk)).2 hp';obtain⟨a1,a2⟩:=f1 (p/k2) (p%k2) hi hj;have e:p/k2*k2+p%k2=p:=by rw[aux];exact avW p k2
        rw[e]at a1;have:A.toList[p]=f (p/k2) (p%k2):=by
         rw[atl (by simpa using hp)]at a1;simpa using as7 a1
        rw[this];exact a2
       obtain⟨w',cs',g1,g2,g3,g4⟩:=ji (P:=P) blk (n*k2) T' A.toList 0 cs w q1 (by simp[f0];omega) hone;have hbs:=(hs.plow id blk (by rw[hH];simp) h3).1;have hcs':∀i j,i<(es.take n++ys).length→j<k2→cs'[i*k2+j]?=some (if i<n then F i j else f (i-n) j)∧(if i<n then F i j else f (i-n) j).oneCell'=true:=fun i j hi hj=>by
        rw[hlen2]at hi;rw[g4];simp only[at9,ath,f0];by_cases hin:i<n
        ·have:=nE hin hj;rw[if_pos hin,if_neg (by omega)];exact q4 i j (by omega) hj
        have hi2:i-n<ys.length:=by omega
        have:=nE hi2 hj;have e:i*k2=(i-n)*k2+n*k2:=by rw[←Nat.add_mul];congr 1;omega
        rw[if_neg hin,if_pos (by omega)];have:=f1 (i-n) j hi2 hj;simp only[aum];rw[show i*k2+j-n*k2=(i-n)*k2+j by omega];exact this
       obtain⟨h6,h7⟩:=hs.older ho (es':=es.take n++ys) (p:=some blk) (room:=c.room id) (w':=w') (fun b hb hnb=>by rw[g2.get _ hbs,if_neg (fun e=>hnb (by rw[e];exact h3))]) (by rw[g2.size];exact aes _) g2.toSame
        (fun b hb=>by cases hb;exact .inl h3) (fun hext=>by
         refine⟨hk,hall2,fun hn=>by simp[bv.older]at hn,fun b hb=>?_⟩;have hb':b=blk:=by simp[bv.older]at hb;exact hb.symm
         subst hb';refine⟨cs',T',fun i j=>if i<n then F i j else f (i-n) j,by rw[g2.get _ hbs,if_pos rfl],by rw[hlen2,g3,atx];exact hfit,by simp[bv.older,g3,q3],hcs',fun i hi j hj=>?_⟩;dsimp only;by_cases hin:i<n
         ·rw[if_pos hin];have e:(es.take n++ys)[i]=es[i]'(by omega):=by rw[amd (by simp;omega)];simp
          have hj':j<(cellsOf (es[i]'(by omega))).length:=by rw[←e];exact hj
          have:=(q5 i (by omega) j hj').ext hext;simp only[e];exact this
         rw[if_neg hin];have hi2:i-n<ys.length:=by rw[hlen2]at hi;omega
         have e:(es.take n++ys)[i]=ys[i-n]'hi2:=by
          rw[arK (by simp;omega)];congr 1;simp;omega
         have hj':j<(cellsOf (ys[i-n]'hi2)).length:=by rw[←e];exact hj
         have:=(f2 (i-n) hi2 j hj').ext hext;simp only[e];exact this)
       have hrun:=hap.room (a:=some ⟨blk,0*k2,none⟩) (n:=n) (cap:=cap) (w':=w') hroom (fun b hb=>by cases hb;rw[gT,avv,apx];exact g1) (fun h=>by cases h);refine ns.of hrun h6 h7 ?_;have hH2:(c.older (σ.set id (.arr k2 (e+1) (es.take n++ys))) id (some blk) (c.room id)).H id=.arr k2 (e+1):=by
        show hd _ id=_;rw[cU (at7 hlt)]
       exact R.sl (by rw[show (c.older _ id _ _).N=c.N from rfl,hs.N];exact hlt) hH2 (by simp[bv.older]) hroom (by simpa [bv.older] using h5)
      exact grow _ _ (by omega) (by obtain⟨B,b1,b2⟩:=hold;exact⟨B,b1,fun w' hw'=>b2 w' hw'⟩)
     |@sl0 _ _ _ _ k2 a h1 h2=>
      exact grow a 0 (by omega) ⟨#[],by simp;exact kw.nil,fun w' _=>by cases a<;>simp[Builtin.firstCells,loadCells,loadCellsFrom]⟩
     |slOld h0 h1 h2=>exact absurd (h2 _ _ hH) (ato _)
    cases h
   cases h
 cases h
theorem adl{c:bv}{σ σ':ah}(hs:cO M w c σ){x y v:aa}{cx cy:Value}(hx:R M w c x cx)(hy:R M w c y cy){ys:List aa}{k:Nat}(hrd:rd σ y=some ys)(h:append k x ys σ=some (v,σ'))
  {T U ty:TypeId} (ht:aa5 P T U k):ns M P c w (do pure (.value (←Builtin.append_ #[T,U] ty #[cx,cy]))) v σ':=
 DF hs hx ht.k0 h fun hall=>
  let ⟨r1,A,r4,hf⟩:=akW hs hy hrd ht.k0 hall
  ⟨A,r4,fun h1 h2 h3=>NT ht (r1 w) (hf w rfl) h1 h2 h3,fun h1 h2 h3=>MZ ht (r1 w) hf h1 h2 h3⟩
structure akD (P:Program) (T U:TypeId) (k:Nat) (e:TypeId) (i:TypeInfo) (z:Value):Prop where
 sl:P.underlying T=some (.slice e)
 info:P.info? e=some i
 size:i.size=k
 zero:i.zero=some z
 cells:z.cells.size=k
 small:i.bytes≤1024
 some_:i.bytes≠0
 int:∃q,P.underlying U=some (.int q)
 k0:k≠0
theorem ado{T U ty e:TypeId}{k:Nat}{i:TypeInfo}{z:Value}(ht:akD P T U k e i z){q:IntKind}{m:Nat}(hm:m≤most):Zk P w T U ty k (.int q m) m (Builtin.zeroCells z.cells m):=by
 obtain⟨h1,h2,h3,h4,h5,h6,h7,⟨q',h8⟩,h9⟩:=ht;have hmost:most=68719476736:=rfl;have hw:IntKind.i64.wrap (m:Int)=m:=by
  simp[IntKind.wrap,IntKind.bits,IntKind.signed];omega
 have hneg:¬((m:Int)<0):=by omega
 have hby:¬(281474976710656<(m:Int)*(i.bytes:Int)):=by
  have:m*i.bytes≤m*1024:=Nat.mul_le_mul_left m h6;have:m*i.bytes≤281474976710656:=by omega
  have:=Int.ofNat_le.2 this;rw[Int.natCast_mul]at this;omega
 have hz:∀w',(if m*i.size=0 then (pure #[]:Sem (Array Value)) else do pure (Builtin.zeroCells (←zeroValue e).cells m)).run P w'=.ok (Builtin.zeroCells z.cells m) w':=fun w'=>by
  by_cases h0:m*i.size=0
  ·rw[if_pos h0];have:m=0:=by
    rcases avX.1 h0 with h|h
    ·exact h
    omega
   subst this;simp[Builtin.zeroCells]
  rw[if_neg h0];simp[zeroValue,typeInfo,h2,h4]
 have hA:∀w',m*i.size≠0→(zeroValue e).run P w'=.ok z w':=fun w' _=>by simp[zeroValue,typeInfo,h2,h4]
 have hA0:m*i.size=0→Builtin.zeroCells z.cells m=#[]:=fun h0=>by
  have:m=0:=by
   rcases avX.1 h0 with h|h
   ·exact h
   omega
  subst this;simp[Builtin.zeroCells]
 refine⟨fun {a n cap w'} hroom hst hn=>?_,fun {a n cap B} ho hroom hbig=>?_⟩
 ·cases a with
  |none=>
   obtain rfl:=hn rfl;by_cases h0:m*i.size=0
   ·simp[Builtin.append_,aK h1,aK h8,sizeOf,typeInfo,h2,asInt,asIntOf,hw,hneg,hby,hroom,h0]
   simp[Builtin.append_,aK h1,aK h8,sizeOf,typeInfo,h2,asInt,asIntOf,hw,hneg,hby,hroom,h0,zeroValue,h4]
  |some b=>
   have:=hst b rfl;rw[←h3]at this;by_cases h0:m*i.size=0
   ·have this':((storeCells (b.add (n*i.size)) []).run P w)=.ok () w':=by rw[hA0 h0]at this;exact this
    simp[Builtin.append_,aK h1,aK h8,sizeOf,typeInfo,h2,asInt,asIntOf,hw,hneg,hby,hroom,h0,this']
   simp[Builtin.append_,aK h1,aK h8,sizeOf,typeInfo,h2,asInt,asIntOf,hw,hneg,hby,hroom,h0,zeroValue,h4,this]
 have hn:¬(n+m≤cap):=by omega
 have h63':¬(9223372036854775807<((n:Int)+(m:Int))):=by omega
 have h48':¬(281474976710656<Builtin.nextslicecap (n+m) cap*i.bytes):=by
  have a1:=uD hroom;have a2:Builtin.nextslicecap (n+m) cap*i.bytes≤(2*(n+m)+192)*1024:=Nat.mul_le_mul a1 h6;omega
 have ho':=ho w.drew rfl;refine⟨(Question.appendCap (n+m) cap e).cut (w.tape w.drawn (.appendCap (n+m) cap e)),e,Builtin.zeroCells z.cells ((Question.appendCap (n+m) cap e).cut (w.tape w.drawn (.appendCap (n+m) cap e))-(n+m)),w.drew,rfl,⟨rfl,rfl,rfl,atB w.drawn⟩,?_,?_,?_⟩
 rotate_left 2
 ·rw[←h3]at ho';by_cases h0:m*i.size=0
  ·simp[Builtin.append_,aK h1,aK h8,sizeOf,typeInfo,h2,asInt,asIntOf,hw,hneg,hby,hn,h63',h48',Question.forced,ho',newRow,h0,zeroValue,h4,hA0 h0];rfl
  simp[Builtin.append_,aK h1,aK h8,sizeOf,typeInfo,h2,asInt,asIntOf,hw,hneg,hby,hn,h63',h48',Question.forced,ho',newRow,h0,zeroValue,h4];rfl
 ·simp[Question.cut]
 simp[Builtin.zeroCells,h5]
end Go.AM
