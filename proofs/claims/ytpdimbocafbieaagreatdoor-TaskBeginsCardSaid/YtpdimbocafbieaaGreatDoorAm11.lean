/- Part of the proof. -/
import Derived.Test.YtpdimbocafbieaaGreatDoorAm07
import Derived.Test.YtpdimbocafbieaaGreatDoorAm05
import Derived.Test.YtpdimbocafbieaaGreatDoorProg
import Derived.KernelRfl
set_option linter.unusedVariables false
set_option linter.unusedSimpArgs false
namespace Go.AM.K
theorem k475:ck 475 (.fn P.f_qgh)=true:=by kernel_rfl
theorem k484:ck 484 (.fn P.f_qz)=true:=by kernel_rfl
theorem k486:ck 486 (.fn P.f_qde)=true:=by kernel_rfl
theorem k487:ck 487 (.round P.r_plan_some_0)=true:=by kernel_rfl
theorem k488:ck 488 (.fn P.f_qcy)=true:=by kernel_rfl
theorem k489:ck 489 (.fn P.f_qgi)=true:=by kernel_rfl
theorem k490:ck 490 (.fn P.f_qgb)=true:=by kernel_rfl
theorem k491:ck 491 (.fn P.f_qga)=true:=by kernel_rfl
theorem k492:ck 492 (.fn P.f_qge)=true:=by kernel_rfl
theorem k493:ck 493 (.nilfn P.f_qen)=true:=by kernel_rfl
theorem k494:ck 494 (.nilfn P.f_qeo)=true:=by kernel_rfl
theorem k496:ck 496 (.fn P.f_qev)=true:=by kernel_rfl
theorem k497:ck 497 (.fn P.f_qcc)=true:=by kernel_rfl
theorem k498:ck 498 (.fn P.f_qcg)=true:=by kernel_rfl
theorem k499:ck 499 (.fn P.f_qfw)=true:=by kernel_rfl
theorem k500:ck 500 (.fn P.f_qex)=true:=by kernel_rfl
theorem k501:ck 501 (.fn P.f_qbz)=true:=by kernel_rfl
theorem k504:ck 504 (.fn P.f_qcr)=true:=by kernel_rfl
theorem k505:ck 505 (.fn P.f_qcn)=true:=by kernel_rfl
theorem k506:ck 506 (.fn P.f_qca)=true:=by kernel_rfl
theorem k507:ck 507 (.fn P.f_qo)=true:=by kernel_rfl
theorem k508:ck 508 (.fn P.f_qp)=true:=by kernel_rfl
theorem k509:ck 509 (.fn P.f_qcz)=true:=by kernel_rfl
theorem k511:ck 511 (.fn P.f_qcb)=true:=by kernel_rfl
theorem k512:ck 512 (.fn P.f_qgj)=true:=by kernel_rfl
theorem k513:ck 513 (.fn P.f_qff)=true:=by kernel_rfl
theorem k514:ck 514 (.fn P.f_qch)=true:=by kernel_rfl
theorem k515:ck 515 (.fn P.f_qcd)=true:=by kernel_rfl
theorem k516:ck 516 (.fn P.f_qfh)=true:=by kernel_rfl
theorem k517:ck 517 (.nilfn P.f_qem)=true:=by kernel_rfl
theorem k522:ck 522 (.fn P.f_qcj)=true:=by kernel_rfl
theorem k523:ck 523 (.fn P.f_qcl)=true:=by kernel_rfl
theorem k524:ck 524 (.fn P.f_qck)=true:=by kernel_rfl
theorem k525:ck 525 (.fn P.f_qdb)=true:=by kernel_rfl
theorem k526:ck 526 (.fn P.f_qdg)=true:=by kernel_rfl
theorem k527:ck 527 (.fn P.f_qcm)=true:=by kernel_rfl
theorem k528:ck 528 (.fn P.f_qfz)=true:=by kernel_rfl
theorem k529:ck 529 (.fn P.f_qco)=true:=by kernel_rfl
theorem k530:ck 530 (.fn P.f_qcp)=true:=by kernel_rfl
theorem k531:ck 531 (.fn P.f_qcq)=true:=by kernel_rfl
theorem k532:ck 532 (.round P.r_prop_Reader_0)=true:=by kernel_rfl
theorem k533:ck 533 (.fn P.f_qdj)=true:=by kernel_rfl
theorem k534:ck 534 (.fn P.f_qdk)=true:=by kernel_rfl
theorem k535:ck 535 (.fn P.f_qav)=true:=by kernel_rfl
theorem k536:ck 536 (.fn P.f_qe)=true:=by kernel_rfl
theorem k537:ck 537 (.fn P.f_qa)=true:=by kernel_rfl
theorem k538:ck 538 (.fn P.f_qaq)=true:=by kernel_rfl
theorem k539:ck 539 (.fn P.f_qao)=true:=by kernel_rfl
theorem k540:ck 540 (.fn P.f_qap)=true:=by kernel_rfl
end Go.AM.K
