/- Part of the proof. -/
import Derived.Test.YtkbcglkclodkaaaGreatDoorAm07
import Derived.Test.YtkbcglkclodkaaaGreatDoorAm05
import Derived.Test.YtkbcglkclodkaaaGreatDoorProg
import Derived.KernelRfl
set_option linter.unusedVariables false
set_option linter.unusedSimpArgs false
namespace Go.AM.K
theorem k2:ck 2 (.fn P.f_qbo)=true:=by kernel_rfl
theorem k3:ck 3 (.fn P.f_qae)=true:=by kernel_rfl
theorem k5:ck 5 (.fn P.f_qao)=true:=by kernel_rfl
theorem k6:ck 6 (.fn P.f_qai)=true:=by kernel_rfl
theorem k7:ck 7 (.fn P.f_qu)=true:=by kernel_rfl
theorem k8:ck 8 (.fn P.f_qaz)=true:=by kernel_rfl
theorem k9:ck 9 (.fn P.f_qah)=true:=by kernel_rfl
theorem k10:ck 10 (.fn P.f_qz)=true:=by kernel_rfl
theorem k11:ck 11 (.fn P.f_qaf)=true:=by kernel_rfl
theorem k12:ck 12 (.fn P.f_qal)=true:=by kernel_rfl
theorem k16:ck 16 (.fn P.f_qbm)=true:=by kernel_rfl
theorem k17:ck 17 (.fn P.f_qbn)=true:=by kernel_rfl
theorem k18:ck 18 (.fn P.f_qad)=true:=by kernel_rfl
theorem k19:ck 19 (.fn P.f_qay)=true:=by kernel_rfl
theorem k20:ck 20 (.fn P.f_qeq)=true:=by kernel_rfl
theorem k29:ck 29 (.fn P.f_qeu)=true:=by kernel_rfl
theorem k34:ck 34 (.fn P.f_qaj)=true:=by kernel_rfl
theorem k35:ck 35 (.fn P.f_qbr)=true:=by kernel_rfl
theorem k36:ck 36 (.fn P.f_qcm)=true:=by kernel_rfl
theorem k37:ck 37 (.fn P.f_qdt)=true:=by kernel_rfl
theorem k38:ck 38 (.fn P.f_qab)=true:=by kernel_rfl
theorem k39:ck 39 (.fn P.f_qaa)=true:=by kernel_rfl
theorem k40:ck 40 (.fn P.f_qbk)=true:=by kernel_rfl
theorem k41:ck 41 (.fn P.f_qbi)=true:=by kernel_rfl
theorem k42:ck 42 (.fn P.f_qfv)=true:=by kernel_rfl
theorem k43:ck 43 (.fn P.f_qba)=true:=by kernel_rfl
theorem k44:ck 44 (.fn P.f_qet)=true:=by kernel_rfl
theorem k45:ck 45 (.fn P.f_qag)=true:=by kernel_rfl
theorem k46:ck 46 (.fn P.f_qac)=true:=by kernel_rfl
theorem k47:ck 47 (.fn P.f_qv)=true:=by kernel_rfl
theorem k48:ck 48 (.fn P.f_qx)=true:=by kernel_rfl
theorem k49:ck 49 (.fn P.f_qy)=true:=by kernel_rfl
theorem k50:ck 50 (.fn P.f_qce)=true:=by kernel_rfl
theorem k51:ck 51 (.fn P.f_qbp)=true:=by kernel_rfl
theorem k52:ck 52 (.fn P.f_qbs)=true:=by kernel_rfl
theorem k60:ck 60 (.fn P.f_qak)=true:=by kernel_rfl
theorem k61:ck 61 (.fn P.f_qfi)=true:=by kernel_rfl
end Go.AM.K
