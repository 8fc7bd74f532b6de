/- Part of the proof. -/
import Derived.Test.YtpdimbocafbieaaGreatDoorAm07
import Derived.Test.YtpdimbocafbieaaGreatDoorAm05
import Derived.Test.YtpdimbocafbieaaGreatDoorProg
import Derived.KernelRfl
set_option linter.unusedVariables false
set_option linter.unusedSimpArgs false
namespace Go.AM.K
theorem k362:ck 362 (.fn P.f_qq)=true:=by kernel_rfl
theorem k363:ck 363 (.fn P.f_qm)=true:=by kernel_rfl
theorem k374:ck 374 (.fn P.f_qbx)=true:=by kernel_rfl
theorem k375:ck 375 (.fn P.f_qbt)=true:=by kernel_rfl
theorem k391:ck 391 (.fn P.f_qs)=true:=by kernel_rfl
theorem k392:ck 392 (.fn P.f_qj)=true:=by kernel_rfl
theorem k399:ck 399 (.fn P.f_qr)=true:=by kernel_rfl
theorem k411:ck 411 (.fn P.f_qaw)=true:=by kernel_rfl
theorem k414:ck 414 (.fn P.f_qg)=true:=by kernel_rfl
theorem k416:ck 416 (.fn P.f_qfp)=true:=by kernel_rfl
theorem k417:ck 417 (.fn P.f_qb)=true:=by kernel_rfl
theorem k418:ck 418 (.fn P.f_qfn)=true:=by kernel_rfl
theorem k419:ck 419 (.fn P.f_qf)=true:=by kernel_rfl
theorem k420:ck 420 (.fn P.f_qfm)=true:=by kernel_rfl
theorem k423:ck 423 (.fn P.f_qd)=true:=by kernel_rfl
theorem k429:ck 429 (.fn P.f_qag)=true:=by kernel_rfl
theorem k430:ck 430 (.fn P.f_qau)=true:=by kernel_rfl
theorem k431:ck 431 (.fn P.f_qar)=true:=by kernel_rfl
theorem k432:ck 432 (.fn P.f_qat)=true:=by kernel_rfl
theorem k434:ck 434 (.fn P.f_qcf)=true:=by kernel_rfl
theorem k435:ck 435 (.fn P.f_qcv)=true:=by kernel_rfl
theorem k436:ck 436 (.fn P.f_qce)=true:=by kernel_rfl
theorem k437:ck 437 (.fn P.f_qct)=true:=by kernel_rfl
theorem k438:ck 438 (.fn P.f_qcx)=true:=by kernel_rfl
theorem k439:ck 439 (.fn P.f_qfo)=true:=by kernel_rfl
theorem k440:ck 440 (.fn P.f_qgk)=true:=by kernel_rfl
theorem k441:ck 441 (.fn P.f_qfq)=true:=by kernel_rfl
theorem k442:ck 442 (.fn P.f_qc)=true:=by kernel_rfl
theorem k444:ck 444 (.fn P.f_qfc)=true:=by kernel_rfl
theorem k448:ck 448 (.fn P.f_qci)=true:=by kernel_rfl
theorem k452:ck 452 (.fn P.f_qas)=true:=by kernel_rfl
theorem k454:ck 454 (.fn P.f_qx)=true:=by kernel_rfl
theorem k456:ck 456 (.fn P.f_qdc)=true:=by kernel_rfl
theorem k457:ck 457 (.fn P.f_qda)=true:=by kernel_rfl
theorem k458:ck 458 (.fn P.f_qcu)=true:=by kernel_rfl
theorem k459:ck 459 (.fn P.f_qdd)=true:=by kernel_rfl
theorem k460:ck 460 (.fn P.f_qcs)=true:=by kernel_rfl
theorem k461:ck 461 (.fn P.f_qcw)=true:=by kernel_rfl
theorem k462:ck 462 (.fn P.f_qfs)=true:=by kernel_rfl
theorem k463:ck 463 (.fn P.f_qgd)=true:=by kernel_rfl
theorem k464:ck 464 (.fn P.f_qfx)=true:=by kernel_rfl
theorem k465:ck 465 (.fn P.f_qgf)=true:=by kernel_rfl
theorem k466:ck 466 (.fn P.f_qgc)=true:=by kernel_rfl
theorem k467:ck 467 (.fn P.f_qfu)=true:=by kernel_rfl
theorem k469:ck 469 (.fn P.f_qfv)=true:=by kernel_rfl
theorem k470:ck 470 (.fn P.f_qft)=true:=by kernel_rfl
theorem k471:ck 471 (.fn P.f_qfy)=true:=by kernel_rfl
theorem k472:ck 472 (.fn P.f_qgg)=true:=by kernel_rfl
theorem k473:ck 473 (.fn P.f_qfr)=true:=by kernel_rfl
theorem k474:ck 474 (.round P.r_task_collected_api_Msg_0)=true:=by kernel_rfl
end Go.AM.K
