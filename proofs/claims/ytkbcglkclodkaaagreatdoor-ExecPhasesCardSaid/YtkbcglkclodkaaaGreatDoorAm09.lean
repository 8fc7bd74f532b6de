/- Part of the proof. -/
import Derived.Test.YtkbcglkclodkaaaGreatDoorAm07
import Derived.Test.YtkbcglkclodkaaaGreatDoorAm05
import Derived.Test.YtkbcglkclodkaaaGreatDoorProg
import Derived.KernelRfl
set_option linter.unusedVariables false
set_option linter.unusedSimpArgs false
namespace Go.AM.K
theorem k62:ck 62 (.nilfn P.f_qfk)=true:=by kernel_rfl
theorem k63:ck 63 (.round P.r_row_Groups_0)=true:=by kernel_rfl
theorem k64:ck 64 (.fn P.f_qff)=true:=by kernel_rfl
theorem k65:ck 65 (.fn P.f_qes)=true:=by kernel_rfl
theorem k66:ck 66 (.fn P.f_qer)=true:=by kernel_rfl
theorem k68:ck 68 (.fn P.f_qex)=true:=by kernel_rfl
theorem k69:ck 69 (.fn P.f_qev)=true:=by kernel_rfl
theorem k70:ck 70 (.fn P.f_qbb)=true:=by kernel_rfl
theorem k71:ck 71 (.fn P.f_qcu)=true:=by kernel_rfl
theorem k75:ck 75 (.fn P.f_qbv)=true:=by kernel_rfl
theorem k77:ck 77 (.fn P.f_qfy)=true:=by kernel_rfl
theorem k78:ck 78 (.fn P.f_qfr)=true:=by kernel_rfl
theorem k79:ck 79 (.fn P.f_qfb)=true:=by kernel_rfl
theorem k80:ck 80 (.fn P.f_qfh)=true:=by kernel_rfl
theorem k95:ck 95 (.nilfn P.f_qfn)=true:=by kernel_rfl
theorem k96:ck 96 (.fn P.f_qej)=true:=by kernel_rfl
theorem k97:ck 97 (.fn P.f_qdu)=true:=by kernel_rfl
theorem k98:ck 98 (.fn P.f_qcj)=true:=by kernel_rfl
theorem k99:ck 99 (.fn P.f_qcn)=true:=by kernel_rfl
theorem k100:ck 100 (.fn P.f_qch)=true:=by kernel_rfl
theorem k101:ck 101 (.fn P.f_qcp)=true:=by kernel_rfl
theorem k102:ck 102 (.fn P.f_qck)=true:=by kernel_rfl
theorem k103:ck 103 (.fn P.f_qco)=true:=by kernel_rfl
theorem k104:ck 104 (.fn P.f_qci)=true:=by kernel_rfl
theorem k105:ck 105 (.fn P.f_qcg)=true:=by kernel_rfl
theorem k106:ck 106 (.fn P.f_qcr)=true:=by kernel_rfl
theorem k107:ck 107 (.fn P.f_qcq)=true:=by kernel_rfl
theorem k108:ck 108 (.fn P.f_qbg)=true:=by kernel_rfl
theorem k109:ck 109 (.fn P.f_qbh)=true:=by kernel_rfl
theorem k110:ck 110 (.fn P.f_qfu)=true:=by kernel_rfl
theorem k111:ck 111 (.fn P.f_qbj)=true:=by kernel_rfl
theorem k112:ck 112 (.fn P.f_qgh)=true:=by kernel_rfl
theorem k113:ck 113 (.fn P.f_qbe)=true:=by kernel_rfl
theorem k114:ck 114 (.nilfn P.f_qfl)=true:=by kernel_rfl
theorem k115:ck 115 (.fn P.f_qga)=true:=by kernel_rfl
theorem k116:ck 116 (.fn P.f_qey)=true:=by kernel_rfl
theorem k117:ck 117 (.fn P.f_qw)=true:=by kernel_rfl
end Go.AM.K
