/- Part of the proof. -/
import Derived.Test.YtmpmbfpkpannjaaGreatDoorCards
import Derived.Deep.DeepHandedRow
import Derived.KernelRfl
set_option linter.unusedVariables false
set_option linter.unusedSimpArgs false
set_option linter.unusedSectionVars false
namespace Go.Proofs.YtmpmbfpkpannjaaGreatDoor.lowerParts
open Go.ChangeShapes Go.WideShapes Go.ChangeAt
theorem j13:(fun (P:Program) (f:FuncId) (fn:Func) (s:ChangeSpec) (c:OpenClaim)=>(((c.maps==(fn.params.toList++s.plain.varTypes P).any (P.mapsRec ·)):Bool))) Tryz.prog 5 Tryz.f5 (OpenSpec.ofChange Rows.lowerPartsSpec).bare Rows.lowerPartsRow=true:=by kernel_rfl
theorem j14:(fun (P:Program) (f:FuncId) (fn:Func) (s:ChangeSpec) (c:OpenClaim)=>(((c.ifaces==(fn.params.toList++s.plain.varTypes P).any (P.ifacesRec ·)):Bool))) Tryz.prog 5 Tryz.f5 (OpenSpec.ofChange Rows.lowerPartsSpec).bare Rows.lowerPartsRow=true:=by kernel_rfl
theorem j15:(fun (P:Program) (f:FuncId) (fn:Func) (s:ChangeSpec) (c:OpenClaim)=>(((c.mapsOut==P.mapsAmong fn.resultTypes.toList):Bool))) Tryz.prog 5 Tryz.f5 (OpenSpec.ofChange Rows.lowerPartsSpec).bare Rows.lowerPartsRow=true:=by kernel_rfl
theorem j16:(fun (P:Program) (f:FuncId) (fn:Func) (s:ChangeSpec) (c:OpenClaim)=>(((c.loops==(fn.params.toList++s.plain.varTypes P).any (P.loopsFrom ·)):Bool))) Tryz.prog 5 Tryz.f5 (OpenSpec.ofChange Rows.lowerPartsSpec).bare Rows.lowerPartsRow=true:=by kernel_rfl
theorem j17:(fun (P:Program) (f:FuncId) (fn:Func) (s:ChangeSpec) (c:OpenClaim)=>(((c.wideKeys==(fn.params.toList++s.plain.varTypes P++fn.resultTypes.toList).any (P.wideKeysFrom ·)):Bool))) Tryz.prog 5 Tryz.f5 (OpenSpec.ofChange Rows.lowerPartsSpec).bare Rows.lowerPartsRow=true:=by kernel_rfl
theorem j18:(fun (P:Program) (f:FuncId) (fn:Func) (s:ChangeSpec) (c:OpenClaim)=>((s.vars.all (P.varReadable ·):Bool))) Tryz.prog 5 Tryz.f5 (OpenSpec.ofChange Rows.lowerPartsSpec).bare Rows.lowerPartsRow=true:=by kernel_rfl
theorem j19:(fun (P:Program) (f:FuncId) (fn:Func) (s:ChangeSpec) (c:OpenClaim)=>((fn.resultTypes.all (fun t=>P.readableRec t&&decide (t<P.types.size)):Bool))) Tryz.prog 5 Tryz.f5 (OpenSpec.ofChange Rows.lowerPartsSpec).bare Rows.lowerPartsRow=true:=by kernel_rfl
theorem j20:(fun (P:Program) (f:FuncId) (fn:Func) (s:ChangeSpec) (c:OpenClaim)=>(((c.ifacesOut==fn.resultTypes.toList.any (P.ifacesRec ·)):Bool))) Tryz.prog 5 Tryz.f5 (OpenSpec.ofChange Rows.lowerPartsSpec).bare Rows.lowerPartsRow=true:=by kernel_rfl
theorem j21:(fun (P:Program) (f:FuncId) (fn:Func) (s:ChangeSpec) (c:OpenClaim)=>(((c.loopsOut==fn.resultTypes.toList.any (P.loopsFrom ·)):Bool))) Tryz.prog 5 Tryz.f5 (OpenSpec.ofChange Rows.lowerPartsSpec).bare Rows.lowerPartsRow=true:=by kernel_rfl
theorem j22:(fun (P:Program) (f:FuncId) (fn:Func) (s:ChangeSpec) (c:OpenClaim)=>(((c.plainKeys==P.plainKeys):Bool))) Tryz.prog 5 Tryz.f5 (OpenSpec.ofChange Rows.lowerPartsSpec).bare Rows.lowerPartsRow=true:=by kernel_rfl
theorem j23:(fun (P:Program) (f:FuncId) (fn:Func) (s:ChangeSpec) (c:OpenClaim)=>((c.shortTexts.isNone:Bool))) Tryz.prog 5 Tryz.f5 (OpenSpec.ofChange Rows.lowerPartsSpec).bare Rows.lowerPartsRow=true:=by kernel_rfl
theorem j24:(fun (P:Program) (f:FuncId) (fn:Func) (s:ChangeSpec) (c:OpenClaim)=>((P.stopsHeard:Bool))) Tryz.prog 5 Tryz.f5 (OpenSpec.ofChange Rows.lowerPartsSpec).bare Rows.lowerPartsRow=true:=by kernel_rfl
theorem j25:(fun (P:Program) (f:FuncId) (fn:Func) (s:ChangeSpec) (c:OpenClaim)=>((P.mayEnter:Bool))) Tryz.prog 5 Tryz.f5 (OpenSpec.ofChange Rows.lowerPartsSpec).bare Rows.lowerPartsRow=true:=by kernel_rfl
theorem j26:(fun (P:Program) (f:FuncId) (fn:Func) (s:ChangeSpec) (c:OpenClaim)=>(((c.lifted==P.liftsFinal):Bool))) Tryz.prog 5 Tryz.f5 (OpenSpec.ofChange Rows.lowerPartsSpec).bare Rows.lowerPartsRow=true:=by kernel_rfl
theorem j27:(fun (P:Program) (f:FuncId) (fn:Func) (s:ChangeSpec) (c:OpenClaim)=>(((P.make==some c.make):Bool))) Tryz.prog 5 Tryz.f5 (OpenSpec.ofChange Rows.lowerPartsSpec).bare Rows.lowerPartsRow=true:=by kernel_rfl
theorem j28:(fun (P:Program) (f:FuncId) (fn:Func) (s:ChangeSpec) (c:OpenClaim)=>(((c.kinds==(if c.domain.isEmpty then [] else fn.params.toList.map fun t=>match P.underlying t with|some (.int k)=>some k|_=>none)):Bool))) Tryz.prog 5 Tryz.f5 (OpenSpec.ofChange Rows.lowerPartsSpec).bare Rows.lowerPartsRow=true:=by kernel_rfl
theorem j29:(fun (P:Program) (f:FuncId) (fn:Func) (s:ChangeSpec) (c:OpenClaim)=>(((c.pinned==c.pinnedBy):Bool))) Tryz.prog 5 Tryz.f5 (OpenSpec.ofChange Rows.lowerPartsSpec).bare Rows.lowerPartsRow=true:=by kernel_rfl
theorem j30:(fun (P:Program) (f:FuncId) (fn:Func) (s:ChangeSpec) (c:OpenClaim)=>(((c.veiled==(fn.params.toList++s.plain.varTypes P++fn.resultTypes.toList).any (P.veiledRec ·)):Bool))) Tryz.prog 5 Tryz.f5 (OpenSpec.ofChange Rows.lowerPartsSpec).bare Rows.lowerPartsRow=true:=by kernel_rfl
theorem j31:(fun (P:Program) (f:FuncId) (fn:Func) (s:ChangeSpec) (c:OpenClaim)=>((c.veiledFits P fn.params.toList (fn.params.toList++s.plain.varTypes P++fn.resultTypes.toList):Bool))) Tryz.prog 5 Tryz.f5 (OpenSpec.ofChange Rows.lowerPartsSpec).bare Rows.lowerPartsRow=true:=by kernel_rfl
theorem named:Tryz.prog.funcNamed "bowsprit/bowspritlaw14.LowerParts" = some 5:=by kernel_rfl
theorem apr:decide (Tryz.f5.isInstance Tryz.prog Rows.lowerPartsRow.origin Rows.lowerPartsRow.targs)=true:=by kernel_rfl
theorem wrap:Tryz.f5.isWrapper Tryz.prog Rows.lowerPartsRow.wrapper Rows.lowerPartsRow.mainSum:=by
 unfold Func.isWrapper;first|(rw[if_pos (by decide +kernel)];kernel_rfl)|(rw[if_neg (by decide +kernel)];exact⟨rfl,rfl⟩)
theorem WG:true=Tryz.pinned.checked.prog.looks []:=by kernel_rfl
theorem Pw:(Tryz.f5.params.toList.all fun t=>!Tryz.prog.wantsStandIn t)=true:=by kernel_rfl
theorem acC:Rows.lowerPartsRow.wfByText (OpenSpec.ofChange Rows.lowerPartsSpec)=true:=by kernel_rfl
theorem acj:Tryz.pinned.checked.prog.mainIs=some (Rows.lowerPartsCard.stood.harness.1,Rows.lowerPartsCard.stood.harness.2.toList):=by kernel_rfl
theorem Wq{P:Program}{c:OpenClaim}(hs:c.start=.entering)(h:P.funcs.toList.any Func.goes=false):false=c.goesBy P:=by
 have h1:∀g:FuncId,(P.funcs[g]?).any Func.goes=false:=fun g=>by
  cases hq:P.funcs[g]? with
  |none=>rfl
  |some fn=>
   have:=List.any_eq_false.1 h fn (by simpa using Array.mem_of_getElem? hq);simpa using this
 have h2:∀f,P.goes f=false:=fun f=>by
  unfold Program.goes;rw[←Array.any_toList,h,Bool.and_false,Bool.or_false];exact List.any_eq_false.2 fun g _=>by rw[h1];decide
 have h3:P.goesFrom c.func=false:=by
  unfold Program.goesFrom;cases P.funcNamed c.func with
  |none=>rfl
  |some f=>exact h2 f
 unfold OpenClaim.goesBy Program.goesAt;rw[h3,hs];rfl
theorem akO:Tryz.pinned.checked.prog.funcs.toList.any Func.goes=false:=by kernel_rfl
theorem goes:false=Rows.lowerPartsRow.goesBy Tryz.pinned.checked.prog:=Wq rfl akO
end Go.Proofs.YtmpmbfpkpannjaaGreatDoor.lowerParts
