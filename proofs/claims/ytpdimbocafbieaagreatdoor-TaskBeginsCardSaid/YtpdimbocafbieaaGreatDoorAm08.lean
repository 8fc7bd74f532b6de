/- Part of the proof. -/
import Derived.Test.YtpdimbocafbieaaGreatDoorAm07
import Derived.Test.YtpdimbocafbieaaGreatDoorAm05
import Derived.Test.YtpdimbocafbieaaGreatDoorProg
import Derived.KernelRfl
set_option linter.unusedVariables false
set_option linter.unusedSimpArgs false
namespace Go.AM.K
theorem k2:ck 2 (.fn P.f_qbh)=true:=by kernel_rfl
theorem k5:ck 5 (.fn P.f_ql)=true:=by kernel_rfl
theorem k23:ck 23 (.fn P.f_qy)=true:=by kernel_rfl
theorem k29:ck 29 (.fn P.f_qee)=true:=by kernel_rfl
theorem k30:ck 30 (.fn P.f_qed)=true:=by kernel_rfl
theorem k31:ck 31 (.fn P.f_qbg)=true:=by kernel_rfl
theorem k35:ck 35 (.fn P.f_qbi)=true:=by kernel_rfl
theorem k36:ck 36 (.fn P.f_qbn)=true:=by kernel_rfl
theorem k37:ck 37 (.fn P.f_qdf)=true:=by kernel_rfl
theorem k42:ck 42 (.fn P.f_qey)=true:=by kernel_rfl
theorem k53:ck 53 (.fn P.f_qae)=true:=by kernel_rfl
theorem k62:ck 62 (.nilfn P.f_qep)=true:=by kernel_rfl
theorem k68:ck 68 (.fn P.f_qef)=true:=by kernel_rfl
theorem k71:ck 71 (.fn P.f_qbp)=true:=by kernel_rfl
theorem k75:ck 75 (.fn P.f_qbj)=true:=by kernel_rfl
theorem k77:ck 77 (.fn P.f_qfa)=true:=by kernel_rfl
theorem k79:ck 79 (.fn P.f_qeg)=true:=by kernel_rfl
theorem k80:ck 80 (.fn P.f_qek)=true:=by kernel_rfl
theorem k95:ck 95 (.nilfn P.f_qer)=true:=by kernel_rfl
theorem k96:ck 96 (.fn P.f_qdy)=true:=by kernel_rfl
theorem k97:ck 97 (.fn P.f_qdh)=true:=by kernel_rfl
theorem k98:ck 98 (.fn P.f_qbm)=true:=by kernel_rfl
theorem k110:ck 110 (.fn P.f_qew)=true:=by kernel_rfl
theorem k112:ck 112 (.fn P.f_qfi)=true:=by kernel_rfl
theorem k114:ck 114 (.nilfn P.f_qeq)=true:=by kernel_rfl
theorem k122:ck 122 (.fn P.f_qi)=true:=by kernel_rfl
theorem k123:ck 123 (.fn P.f_qam)=true:=by kernel_rfl
theorem k124:ck 124 (.fn P.f_qai)=true:=by kernel_rfl
theorem k125:ck 125 (.fn P.f_qal)=true:=by kernel_rfl
theorem k126:ck 126 (.fn P.f_qaj)=true:=by kernel_rfl
theorem k127:ck 127 (.fn P.f_qah)=true:=by kernel_rfl
theorem k128:ck 128 (.fn P.f_qak)=true:=by kernel_rfl
theorem k140:ck 140 (.fn P.f_qeh)=true:=by kernel_rfl
theorem k141:ck 141 (.fn P.f_qbb)=true:=by kernel_rfl
theorem k142:ck 142 (.fn P.f_qet)=true:=by kernel_rfl
theorem k143:ck 143 (.fn P.f_qel)=true:=by kernel_rfl
theorem k146:ck 146 (.fn P.f_qbv)=true:=by kernel_rfl
theorem k160:ck 160 (.fn P.f_qfk)=true:=by kernel_rfl
theorem k161:ck 161 (.fn P.f_qbk)=true:=by kernel_rfl
theorem k163:ck 163 (.fn P.f_qei)=true:=by kernel_rfl
theorem k177:ck 177 (.fn P.f_qdu)=true:=by kernel_rfl
theorem k178:ck 178 (.fn P.f_qdo)=true:=by kernel_rfl
theorem k179:ck 179 (.fn P.f_qdq)=true:=by kernel_rfl
theorem k180:ck 180 (.fn P.f_qdl)=true:=by kernel_rfl
theorem k181:ck 181 (.fn P.f_qdn)=true:=by kernel_rfl
theorem k182:ck 182 (.fn P.f_qds)=true:=by kernel_rfl
theorem k183:ck 183 (.fn P.f_qdm)=true:=by kernel_rfl
theorem k184:ck 184 (.fn P.f_qdt)=true:=by kernel_rfl
theorem k185:ck 185 (.fn P.f_qdr)=true:=by kernel_rfl
theorem k186:ck 186 (.fn P.f_qdz)=true:=by kernel_rfl
end Go.AM.K
