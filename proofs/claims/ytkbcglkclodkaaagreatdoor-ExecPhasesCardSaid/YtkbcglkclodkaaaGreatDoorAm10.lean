/- Part of the proof. -/
import Derived.Test.YtkbcglkclodkaaaGreatDoorAm07
import Derived.Test.YtkbcglkclodkaaaGreatDoorAm05
import Derived.Test.YtkbcglkclodkaaaGreatDoorProg
import Derived.KernelRfl
set_option linter.unusedVariables false
set_option linter.unusedSimpArgs false
namespace Go.AM.K
theorem k118:ck 118 (.fn P.f_qbq)=true:=by kernel_rfl
theorem k119:ck 119 (.fn P.f_qby)=true:=by kernel_rfl
theorem k120:ck 120 (.fn P.f_qcf)=true:=by kernel_rfl
theorem k121:ck 121 (.fn P.f_qbt)=true:=by kernel_rfl
theorem k136:ck 136 (.fn P.f_qam)=true:=by kernel_rfl
theorem k137:ck 137 (.fn P.f_qan)=true:=by kernel_rfl
theorem k138:ck 138 (.fn P.f_qez)=true:=by kernel_rfl
theorem k139:ck 139 (.fn P.f_qew)=true:=by kernel_rfl
theorem k140:ck 140 (.fn P.f_qfc)=true:=by kernel_rfl
theorem k141:ck 141 (.fn P.f_qat)=true:=by kernel_rfl
theorem k142:ck 142 (.fn P.f_qfq)=true:=by kernel_rfl
theorem k143:ck 143 (.fn P.f_qfj)=true:=by kernel_rfl
theorem k144:ck 144 (.fn P.f_qgc)=true:=by kernel_rfl
theorem k145:ck 145 (.fn P.f_qfg)=true:=by kernel_rfl
theorem k146:ck 146 (.fn P.f_qdf)=true:=by kernel_rfl
theorem k147:ck 147 (.fn P.f_qgm)=true:=by kernel_rfl
theorem k148:ck 148 (.fn P.f_qbl)=true:=by kernel_rfl
theorem k149:ck 149 (.fn P.f_qgw)=true:=by kernel_rfl
theorem k150:ck 150 (.fn P.f_qc)=true:=by kernel_rfl
theorem k151:ck 151 (.fn P.f_qgn)=true:=by kernel_rfl
theorem k152:ck 152 (.fn P.f_qfx)=true:=by kernel_rfl
theorem k153:ck 153 (.fn P.f_qbc)=true:=by kernel_rfl
theorem k154:ck 154 (.fn P.f_qbd)=true:=by kernel_rfl
theorem k160:ck 160 (.fn P.f_qgk)=true:=by kernel_rfl
theorem k161:ck 161 (.fn P.f_qbw)=true:=by kernel_rfl
theorem k163:ck 163 (.fn P.f_qfd)=true:=by kernel_rfl
theorem k164:ck 164 (.fn P.f_qgd)=true:=by kernel_rfl
theorem k168:ck 168 (.fn P.f_qfs)=true:=by kernel_rfl
theorem k172:ck 172 (.fn P.f_qcw)=true:=by kernel_rfl
theorem k173:ck 173 (.fn P.f_qep)=true:=by kernel_rfl
theorem k177:ck 177 (.fn P.f_qef)=true:=by kernel_rfl
theorem k178:ck 178 (.fn P.f_qdz)=true:=by kernel_rfl
theorem k179:ck 179 (.fn P.f_qeb)=true:=by kernel_rfl
theorem k180:ck 180 (.fn P.f_qdw)=true:=by kernel_rfl
theorem k181:ck 181 (.fn P.f_qdy)=true:=by kernel_rfl
theorem k182:ck 182 (.fn P.f_qed)=true:=by kernel_rfl
theorem k183:ck 183 (.fn P.f_qdx)=true:=by kernel_rfl
end Go.AM.K
