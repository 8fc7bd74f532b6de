/- Part of the proof. -/
import Derived.Test.YtkbcglkclodkaaaGreatDoorAm07
import Derived.Test.YtkbcglkclodkaaaGreatDoorAm05
import Derived.Test.YtkbcglkclodkaaaGreatDoorProg
import Derived.KernelRfl
set_option linter.unusedVariables false
set_option linter.unusedSimpArgs false
namespace Go.AM.K
theorem k246:ck 246 (.fn P.f_qdb)=true:=by kernel_rfl
theorem k247:ck 247 (.fn P.f_qdo)=true:=by kernel_rfl
theorem k248:ck 248 (.fn P.f_qgj)=true:=by kernel_rfl
theorem k253:ck 253 (.fn P.f_qgb)=true:=by kernel_rfl
theorem k254:ck 254 (.fn P.f_qbx)=true:=by kernel_rfl
theorem k255:ck 255 (.fn P.f_qgs)=true:=by kernel_rfl
theorem k256:ck 256 (.fn P.f_qhg)=true:=by kernel_rfl
theorem k257:ck 257 (.fn P.f_qds)=true:=by kernel_rfl
theorem k259:ck 259 (.fn P.f_qfw)=true:=by kernel_rfl
theorem k260:ck 260 (.fn P.f_qfe)=true:=by kernel_rfl
theorem k264:ck 264 (.fn P.f_qhf)=true:=by kernel_rfl
theorem k265:ck 265 (.fn P.f_qge)=true:=by kernel_rfl
theorem k266:ck 266 (.fn P.f_qfo)=true:=by kernel_rfl
theorem k272:ck 272 (.fn P.f_qeg)=true:=by kernel_rfl
theorem k273:ck 273 (.fn P.f_qea)=true:=by kernel_rfl
theorem k274:ck 274 (.fn P.f_qem)=true:=by kernel_rfl
theorem k275:ck 275 (.fn P.f_qft)=true:=by kernel_rfl
theorem k276:ck 276 (.fn P.f_qcy)=true:=by kernel_rfl
theorem k277:ck 277 (.fn P.f_qei)=true:=by kernel_rfl
theorem k278:ck 278 (.fn P.f_qgl)=true:=by kernel_rfl
theorem k279:ck 279 (.fn P.f_qcd)=true:=by kernel_rfl
theorem k280:ck 280 (.fn P.f_qca)=true:=by kernel_rfl
theorem k281:ck 281 (.fn P.f_qfp)=true:=by kernel_rfl
theorem k283:ck 283 (.fn P.f_qdd)=true:=by kernel_rfl
theorem k284:ck 284 (.fn P.f_qj)=true:=by kernel_rfl
theorem k285:ck 285 (.fn P.f_qgz)=true:=by kernel_rfl
theorem k286:ck 286 (.fn P.f_qdi)=true:=by kernel_rfl
theorem k287:ck 287 (.fn P.f_qa)=true:=by kernel_rfl
theorem k288:ck 288 (.fn P.f_qk)=true:=by kernel_rfl
theorem k289:ck 289 (.fn P.f_qh)=true:=by kernel_rfl
theorem k290:ck 290 (.fn P.f_qd)=true:=by kernel_rfl
theorem k291:ck 291 (.fn P.f_qgu)=true:=by kernel_rfl
theorem k292:ck 292 (.fn P.f_qdg)=true:=by kernel_rfl
theorem k293:ck 293 (.fn P.f_qgx)=true:=by kernel_rfl
theorem k294:ck 294 (.fn P.f_qgp)=true:=by kernel_rfl
theorem k295:ck 295 (.fn P.f_qhc)=true:=by kernel_rfl
theorem k296:ck 296 (.fn P.f_qdp)=true:=by kernel_rfl
end Go.AM.K
