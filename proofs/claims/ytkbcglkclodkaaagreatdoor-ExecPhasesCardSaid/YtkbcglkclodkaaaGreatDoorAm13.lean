/- Part of the proof. -/
import Derived.Test.YtkbcglkclodkaaaGreatDoorAm07
import Derived.Test.YtkbcglkclodkaaaGreatDoorAm05
import Derived.Test.YtkbcglkclodkaaaGreatDoorProg
import Derived.KernelRfl
set_option linter.unusedVariables false
set_option linter.unusedSimpArgs false
namespace Go.AM.K
theorem k297:ck 297 (.fn P.f_qdl)=true:=by kernel_rfl
theorem k316:ck 316 (.fn P.f_qau)=true:=by kernel_rfl
theorem k317:ck 317 (.fn P.f_qav)=true:=by kernel_rfl
theorem k318:ck 318 (.fn P.f_qax)=true:=by kernel_rfl
theorem k319:ck 319 (.fn P.f_qaw)=true:=by kernel_rfl
theorem k320:ck 320 (.fn P.f_qgi)=true:=by kernel_rfl
theorem k321:ck 321 (.fn P.f_qgr)=true:=by kernel_rfl
theorem k339:ck 339 (.fn P.f_qgf)=true:=by kernel_rfl
theorem k340:ck 340 (.fn P.f_qcz)=true:=by kernel_rfl
theorem k341:ck 341 (.fn P.f_qdm)=true:=by kernel_rfl
theorem k342:ck 342 (.fn P.f_qdq)=true:=by kernel_rfl
theorem k343:ck 343 (.fn P.f_qhh)=true:=by kernel_rfl
theorem k344:ck 344 (.fn P.f_qgy)=true:=by kernel_rfl
theorem k345:ck 345 (.fn P.f_qde)=true:=by kernel_rfl
theorem k346:ck 346 (.fn P.f_qhi)=true:=by kernel_rfl
theorem k347:ck 347 (.fn P.f_qha)=true:=by kernel_rfl
theorem k348:ck 348 (.fn P.f_qdj)=true:=by kernel_rfl
theorem k349:ck 349 (.fn P.f_qo)=true:=by kernel_rfl
theorem k350:ck 350 (.fn P.f_qb)=true:=by kernel_rfl
theorem k351:ck 351 (.fn P.f_ql)=true:=by kernel_rfl
theorem k352:ck 352 (.fn P.f_qi)=true:=by kernel_rfl
theorem k353:ck 353 (.fn P.f_qe)=true:=by kernel_rfl
theorem k354:ck 354 (.fn P.f_qgv)=true:=by kernel_rfl
theorem k355:ck 355 (.fn P.f_qdh)=true:=by kernel_rfl
theorem k356:ck 356 (.fn P.f_qgq)=true:=by kernel_rfl
theorem k357:ck 357 (.fn P.f_qhd)=true:=by kernel_rfl
theorem k358:ck 358 (.nilfn P.f_qfm)=true:=by kernel_rfl
theorem k374:ck 374 (.fn P.f_qdn)=true:=by kernel_rfl
theorem k375:ck 375 (.fn P.f_qda)=true:=by kernel_rfl
theorem k386:ck 386 (.fn P.f_qgt)=true:=by kernel_rfl
theorem k387:ck 387 (.fn P.f_qhj)=true:=by kernel_rfl
theorem k388:ck 388 (.fn P.f_qhk)=true:=by kernel_rfl
theorem k389:ck 389 (.fn P.f_qq)=true:=by kernel_rfl
theorem k390:ck 390 (.fn P.f_qr)=true:=by kernel_rfl
theorem k398:ck 398 (.fn P.f_qgo)=true:=by kernel_rfl
theorem k401:ck 401 (.fn P.f_qdr)=true:=by kernel_rfl
theorem k406:ck 406 (.fn P.f_qt)=true:=by kernel_rfl
end Go.AM.K
