/- What the row says of the program, fact by fact. -/
import Derived.Test.YtappfinkgehchaaGreatDoorCards
import Derived.Deep.DeepHandedRow
import Derived.KernelRfl
set_option linter.unusedVariables false
set_option linter.unusedSimpArgs false
set_option linter.unusedSectionVars false
namespace Go.Proofs.YtappfinkgehchaaGreatDoor.meanMay
open Go.ChangeShapes Go.WideShapes Go.ChangeAt
theorem j13 : (fun (P : Program) (f : FuncId) (fn : Func) (s : ChangeSpec) (c : OpenClaim) => (((c.maps == (fn.params.toList ++ s.plain.varTypes P).any (P.mapsRec ·)) : Bool))) Tryz.prog 3 Tryz.f3 (OpenSpec.ofChange Rows.meanMaySpec).bare Rows.meanMayRow = true := by kernel_rfl
theorem j14 : (fun (P : Program) (f : FuncId) (fn : Func) (s : ChangeSpec) (c : OpenClaim) => (((c.ifaces == (fn.params.toList ++ s.plain.varTypes P).any (P.ifacesRec ·)) : Bool))) Tryz.prog 3 Tryz.f3 (OpenSpec.ofChange Rows.meanMaySpec).bare Rows.meanMayRow = true := by kernel_rfl
theorem j15 : (fun (P : Program) (f : FuncId) (fn : Func) (s : ChangeSpec) (c : OpenClaim) => (((c.mapsOut == P.mapsAmong fn.resultTypes.toList) : Bool))) Tryz.prog 3 Tryz.f3 (OpenSpec.ofChange Rows.meanMaySpec).bare Rows.meanMayRow = true := by kernel_rfl
theorem j16 : (fun (P : Program) (f : FuncId) (fn : Func) (s : ChangeSpec) (c : OpenClaim) => (((c.loops == (fn.params.toList ++ s.plain.varTypes P).any (P.loopsFrom ·)) : Bool))) Tryz.prog 3 Tryz.f3 (OpenSpec.ofChange Rows.meanMaySpec).bare Rows.meanMayRow = true := by kernel_rfl
theorem j17 : (fun (P : Program) (f : FuncId) (fn : Func) (s : ChangeSpec) (c : OpenClaim) => (((c.wideKeys == (fn.params.toList ++ s.plain.varTypes P ++ fn.resultTypes.toList).any (P.wideKeysFrom ·)) : Bool))) Tryz.prog 3 Tryz.f3 (OpenSpec.ofChange Rows.meanMaySpec).bare Rows.meanMayRow = true := by kernel_rfl
theorem j18 : (fun (P : Program) (f : FuncId) (fn : Func) (s : ChangeSpec) (c : OpenClaim) => ((s.vars.all (P.varReadable ·) : Bool))) Tryz.prog 3 Tryz.f3 (OpenSpec.ofChange Rows.meanMaySpec).bare Rows.meanMayRow = true := by kernel_rfl
theorem j19 : (fun (P : Program) (f : FuncId) (fn : Func) (s : ChangeSpec) (c : OpenClaim) => ((fn.resultTypes.all (fun t => P.readableRec t && decide (t < P.types.size)) : Bool))) Tryz.prog 3 Tryz.f3 (OpenSpec.ofChange Rows.meanMaySpec).bare Rows.meanMayRow = true := by kernel_rfl
theorem j20 : (fun (P : Program) (f : FuncId) (fn : Func) (s : ChangeSpec) (c : OpenClaim) => (((c.ifacesOut == fn.resultTypes.toList.any (P.ifacesRec ·)) : Bool))) Tryz.prog 3 Tryz.f3 (OpenSpec.ofChange Rows.meanMaySpec).bare Rows.meanMayRow = true := by kernel_rfl
theorem j21 : (fun (P : Program) (f : FuncId) (fn : Func) (s : ChangeSpec) (c : OpenClaim) => (((c.loopsOut == fn.resultTypes.toList.any (P.loopsFrom ·)) : Bool))) Tryz.prog 3 Tryz.f3 (OpenSpec.ofChange Rows.meanMaySpec).bare Rows.meanMayRow = true := by kernel_rfl
theorem j22 : (fun (P : Program) (f : FuncId) (fn : Func) (s : ChangeSpec) (c : OpenClaim) => (((c.plainKeys == P.plainKeys) : Bool))) Tryz.prog 3 Tryz.f3 (OpenSpec.ofChange Rows.meanMaySpec).bare Rows.meanMayRow = true := by kernel_rfl
theorem j23 : (fun (P : Program) (f : FuncId) (fn : Func) (s : ChangeSpec) (c : OpenClaim) => ((c.shortTexts.isNone : Bool))) Tryz.prog 3 Tryz.f3 (OpenSpec.ofChange Rows.meanMaySpec).bare Rows.meanMayRow = true := by kernel_rfl
theorem j24 : (fun (P : Program) (f : FuncId) (fn : Func) (s : ChangeSpec) (c : OpenClaim) => ((P.stopsHeard : Bool))) Tryz.prog 3 Tryz.f3 (OpenSpec.ofChange Rows.meanMaySpec).bare Rows.meanMayRow = true := by kernel_rfl
theorem j25 : (fun (P : Program) (f : FuncId) (fn : Func) (s : ChangeSpec) (c : OpenClaim) => ((P.mayEnter : Bool))) Tryz.prog 3 Tryz.f3 (OpenSpec.ofChange Rows.meanMaySpec).bare Rows.meanMayRow = true := by kernel_rfl
theorem j26 : (fun (P : Program) (f : FuncId) (fn : Func) (s : ChangeSpec) (c : OpenClaim) => (((c.lifted == P.liftsFinal) : Bool))) Tryz.prog 3 Tryz.f3 (OpenSpec.ofChange Rows.meanMaySpec).bare Rows.meanMayRow = true := by kernel_rfl
theorem j27 : (fun (P : Program) (f : FuncId) (fn : Func) (s : ChangeSpec) (c : OpenClaim) => (((P.make == some c.make) : Bool))) Tryz.prog 3 Tryz.f3 (OpenSpec.ofChange Rows.meanMaySpec).bare Rows.meanMayRow = true := by kernel_rfl
theorem j28 : (fun (P : Program) (f : FuncId) (fn : Func) (s : ChangeSpec) (c : OpenClaim) => (((c.kinds == (if c.domain.isEmpty then [] else fn.params.toList.map fun t => match P.underlying t with | some (.int k) => some k | _ => none)) : Bool))) Tryz.prog 3 Tryz.f3 (OpenSpec.ofChange Rows.meanMaySpec).bare Rows.meanMayRow = true := by kernel_rfl
theorem j29 : (fun (P : Program) (f : FuncId) (fn : Func) (s : ChangeSpec) (c : OpenClaim) => (((c.pinned == c.pinnedBy) : Bool))) Tryz.prog 3 Tryz.f3 (OpenSpec.ofChange Rows.meanMaySpec).bare Rows.meanMayRow = true := by kernel_rfl
theorem j30 : (fun (P : Program) (f : FuncId) (fn : Func) (s : ChangeSpec) (c : OpenClaim) => (((c.veiled == (fn.params.toList ++ s.plain.varTypes P ++ fn.resultTypes.toList).any (P.veiledRec ·)) : Bool))) Tryz.prog 3 Tryz.f3 (OpenSpec.ofChange Rows.meanMaySpec).bare Rows.meanMayRow = true := by kernel_rfl
theorem j31 : (fun (P : Program) (f : FuncId) (fn : Func) (s : ChangeSpec) (c : OpenClaim) => ((c.veiledFits P fn.params.toList (fn.params.toList ++ s.plain.varTypes P ++ fn.resultTypes.toList) : Bool))) Tryz.prog 3 Tryz.f3 (OpenSpec.ofChange Rows.meanMaySpec).bare Rows.meanMayRow = true := by kernel_rfl
theorem named : Tryz.prog.funcNamed "bowsprit/bowspritlaw21.MeanMay" = some 3 := by kernel_rfl
theorem inst : decide (Tryz.f3.isInstance Tryz.prog Rows.meanMayRow.origin Rows.meanMayRow.targs) = true := by kernel_rfl
theorem wrap : Tryz.f3.isWrapper Tryz.prog Rows.meanMayRow.wrapper Rows.meanMayRow.mainSum := by
  unfold Func.isWrapper; first | (rw [if_pos (by decide +kernel)]; kernel_rfl) | (rw [if_neg (by decide +kernel)]; exact ⟨rfl, rfl⟩)
theorem looks_off : false = Tryz.pinned.checked.prog.looks [] := by kernel_rfl
theorem no_stand_in : (Tryz.f3.params.toList.all fun t => !Tryz.prog.wantsStandIn t) = true := by kernel_rfl
theorem by_text : Rows.meanMayRow.wfByText (OpenSpec.ofChange Rows.meanMaySpec) = true := by kernel_rfl
theorem main_is : Tryz.pinned.checked.prog.mainIs = some (Rows.meanMayCard.stood.harness.1, Rows.meanMayCard.stood.harness.2.toList) := by kernel_rfl
theorem goes : false = Rows.meanMayRow.goesBy Tryz.pinned.checked.prog := by kernel_rfl
end Go.Proofs.YtappfinkgehchaaGreatDoor.meanMay
