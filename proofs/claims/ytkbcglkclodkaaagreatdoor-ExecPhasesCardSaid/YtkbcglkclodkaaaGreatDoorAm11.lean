/- Part of the proof. -/
import Derived.Test.YtkbcglkclodkaaaGreatDoorAm07
import Derived.Test.YtkbcglkclodkaaaGreatDoorAm05
import Derived.Test.YtkbcglkclodkaaaGreatDoorProg
import Derived.KernelRfl
set_option linter.unusedVariables false
set_option linter.unusedSimpArgs false
namespace Go.AM.K
theorem k184:ck 184 (.fn P.f_qee)=true:=by kernel_rfl
theorem k185:ck 185 (.fn P.f_qec)=true:=by kernel_rfl
theorem k186:ck 186 (.fn P.f_qek)=true:=by kernel_rfl
theorem k187:ck 187 (.fn P.f_qeh)=true:=by kernel_rfl
theorem k188:ck 188 (.fn P.f_qfz)=true:=by kernel_rfl
theorem k189:ck 189 (.fn P.f_qdv)=true:=by kernel_rfl
theorem k190:ck 190 (.fn P.f_qel)=true:=by kernel_rfl
theorem k191:ck 191 (.fn P.f_qcs)=true:=by kernel_rfl
theorem k192:ck 192 (.fn P.f_qcb)=true:=by kernel_rfl
theorem k193:ck 193 (.round P.r_exec_run_join_0)=true:=by kernel_rfl
theorem k194:ck 194 (.fn P.f_qcc)=true:=by kernel_rfl
theorem k195:ck 195 (.fn P.f_qcl)=true:=by kernel_rfl
theorem k196:ck 196 (.fn P.f_qgg)=true:=by kernel_rfl
theorem k197:ck 197 (.fn P.f_qen)=true:=by kernel_rfl
theorem k198:ck 198 (.fn P.f_qbf)=true:=by kernel_rfl
theorem k199:ck 199 (.round P.r_exec_grouped_0)=true:=by kernel_rfl
theorem k200:ck 200 (.fn P.f_qbz)=true:=by kernel_rfl
theorem k201:ck 201 (.fn P.f_qm)=true:=by kernel_rfl
theorem k202:ck 202 (.fn P.f_qhb)=true:=by kernel_rfl
theorem k203:ck 203 (.fn P.f_qcx)=true:=by kernel_rfl
theorem k204:ck 204 (.fn P.f_qdk)=true:=by kernel_rfl
theorem k205:ck 205 (.fn P.f_qdc)=true:=by kernel_rfl
theorem k206:ck 206 (.fn P.f_qhe)=true:=by kernel_rfl
theorem k207:ck 207 (.fn P.f_qcv)=true:=by kernel_rfl
theorem k208:ck 208 (.fn P.f_qs)=true:=by kernel_rfl
theorem k209:ck 209 (.fn P.f_qp)=true:=by kernel_rfl
theorem k210:ck 210 (.fn P.f_qn)=true:=by kernel_rfl
theorem k211:ck 211 (.fn P.f_qct)=true:=by kernel_rfl
theorem k212:ck 212 (.fn P.f_qg)=true:=by kernel_rfl
theorem k213:ck 213 (.fn P.f_qbu)=true:=by kernel_rfl
theorem k214:ck 214 (.fn P.f_qeo)=true:=by kernel_rfl
theorem k215:ck 215 (.fn P.f_qf)=true:=by kernel_rfl
theorem k230:ck 230 (.fn P.f_qfa)=true:=by kernel_rfl
theorem k242:ck 242 (.fn P.f_qap)=true:=by kernel_rfl
theorem k243:ck 243 (.fn P.f_qaq)=true:=by kernel_rfl
theorem k244:ck 244 (.fn P.f_qas)=true:=by kernel_rfl
theorem k245:ck 245 (.fn P.f_qar)=true:=by kernel_rfl
end Go.AM.K
