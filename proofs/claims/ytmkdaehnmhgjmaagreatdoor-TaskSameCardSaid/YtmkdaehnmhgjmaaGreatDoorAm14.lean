/- PRINTED by mktop.py: each function is the program's, as the kernel sees. -/
import Derived.Test.YtmkdaehnmhgjmaaGreatDoorAm09
import Derived.Test.YtmkdaehnmhgjmaaGreatDoorAm06
import Derived.Test.YtmkdaehnmhgjmaaGreatDoorProg
import Derived.KernelRfl
set_option linter.unusedVariables false
set_option linter.unusedSimpArgs false
namespace Go.AM.K
theorem k424 : chkE Go.Proofs.Tryz.prog S.fm S.glob S.sites (presOf P.tbl) S.em 424 (.fn P.f_prop_Same) = true := by kernel_rfl
theorem k425 : chkE Go.Proofs.Tryz.prog S.fm S.glob S.sites (presOf P.tbl) S.em 425 (.fn P.f_slices_EqualFunc_api_Out_api_Out_api_Out_api_Out) = true := by kernel_rfl
theorem k426 : chkE Go.Proofs.Tryz.prog S.fm S.glob S.sites (presOf P.tbl) S.em 426 (.fn P.f_task_Same_2) = true := by kernel_rfl
theorem k427 : chkE Go.Proofs.Tryz.prog S.fm S.glob S.sites (presOf P.tbl) S.em 427 (.fn P.f_slices_EqualFunc_api_In_api_In_api_In_api_In) = true := by kernel_rfl
theorem k428 : chkE Go.Proofs.Tryz.prog S.fm S.glob S.sites (presOf P.tbl) S.em 428 (.fn P.f_task_Same_1) = true := by kernel_rfl
theorem k429 : chkE Go.Proofs.Tryz.prog S.fm S.glob S.sites (presOf P.tbl) S.em 429 (.fn P.f_bref18_Same) = true := by kernel_rfl
theorem k430 : chkE Go.Proofs.Tryz.prog S.fm S.glob S.sites (presOf P.tbl) S.em 430 (.fn P.f_bref22_SameSender) = true := by kernel_rfl
theorem k431 : chkE Go.Proofs.Tryz.prog S.fm S.glob S.sites (presOf P.tbl) S.em 431 (.fn P.f_bref21_Same) = true := by kernel_rfl
theorem k432 : chkE Go.Proofs.Tryz.prog S.fm S.glob S.sites (presOf P.tbl) S.em 432 (.fn P.f_bref22_SameReceiver) = true := by kernel_rfl
theorem k433 : chkE Go.Proofs.Tryz.prog S.fm S.glob S.sites (presOf P.tbl) S.em 433 (.fn P.f_bref23_SamePacket) = true := by kernel_rfl
theorem k434 : chkE Go.Proofs.Tryz.prog S.fm S.glob S.sites (presOf P.tbl) S.em 434 (.fn P.f_link_Open) = true := by kernel_rfl
theorem k435 : chkE Go.Proofs.Tryz.prog S.fm S.glob S.sites (presOf P.tbl) S.em 435 (.fn P.f_plan_Outof) = true := by kernel_rfl
theorem k436 : chkE Go.Proofs.Tryz.prog S.fm S.glob S.sites (presOf P.tbl) S.em 436 (.fn P.f_link_Listen) = true := by kernel_rfl
theorem k437 : chkE Go.Proofs.Tryz.prog S.fm S.glob S.sites (presOf P.tbl) S.em 437 (.fn P.f_plan_Into) = true := by kernel_rfl
theorem k438 : chkE Go.Proofs.Tryz.prog S.fm S.glob S.sites (presOf P.tbl) S.em 438 (.fn P.f_plan_Places) = true := by kernel_rfl
theorem k439 : chkE Go.Proofs.Tryz.prog S.fm S.glob S.sites (presOf P.tbl) S.em 439 (.fn P.f_task_Go_1) = true := by kernel_rfl
theorem k440 : chkE Go.Proofs.Tryz.prog S.fm S.glob S.sites (presOf P.tbl) S.em 440 (.fn P.f_task_turned) = true := by kernel_rfl
theorem k441 : chkE Go.Proofs.Tryz.prog S.fm S.glob S.sites (presOf P.tbl) S.em 441 (.fn P.f_task_Tick_1) = true := by kernel_rfl
theorem k442 : chkE Go.Proofs.Tryz.prog S.fm S.glob S.sites (presOf P.tbl) S.em 442 (.fn P.f_blaw25_overExpr) = true := by kernel_rfl
theorem k443 : chkE Go.Proofs.Tryz.prog S.fm S.glob S.sites (presOf P.tbl) S.em 443 (.fn P.f_link_SameReceiver) = true := by kernel_rfl
theorem k444 : chkE Go.Proofs.Tryz.prog S.fm S.glob S.sites (presOf P.tbl) S.em 444 (.fn P.f_slices_EqualFunc_api_Batch_api_Batch_api_Batch_api_Batch) = true := by kernel_rfl
theorem k445 : chkE Go.Proofs.Tryz.prog S.fm S.glob S.sites (presOf P.tbl) S.em 445 (.fn P.f_link_same) = true := by kernel_rfl
theorem k446 : chkE Go.Proofs.Tryz.prog S.fm S.glob S.sites (presOf P.tbl) S.em 446 (.fn P.f_slices_EqualFunc_api_Held_api_Held_api_Held_api_Held) = true := by kernel_rfl
theorem k447 : chkE Go.Proofs.Tryz.prog S.fm S.glob S.sites (presOf P.tbl) S.em 447 (.fn P.f_link_SameReceiver_1) = true := by kernel_rfl
theorem k448 : chkE Go.Proofs.Tryz.prog S.fm S.glob S.sites (presOf P.tbl) S.em 448 (.fn P.f_link_SameSender) = true := by kernel_rfl
theorem k449 : chkE Go.Proofs.Tryz.prog S.fm S.glob S.sites (presOf P.tbl) S.em 449 (.fn P.f_prop_Same_2) = true := by kernel_rfl
theorem k450 : chkE Go.Proofs.Tryz.prog S.fm S.glob S.sites (presOf P.tbl) S.em 450 (.fn P.f_slices_EqualFunc_api_Frag_api_Frag_api_Frag_api_Frag) = true := by kernel_rfl
theorem k451 : chkE Go.Proofs.Tryz.prog S.fm S.glob S.sites (presOf P.tbl) S.em 451 (.fn P.f_prop_Same_1) = true := by kernel_rfl
theorem k452 : chkE Go.Proofs.Tryz.prog S.fm S.glob S.sites (presOf P.tbl) S.em 452 (.fn P.f_bref22_SameBatches) = true := by kernel_rfl
theorem k453 : chkE Go.Proofs.Tryz.prog S.fm S.glob S.sites (presOf P.tbl) S.em 453 (.fn P.f_bref22_SameBatch) = true := by kernel_rfl
theorem k454 : chkE Go.Proofs.Tryz.prog S.fm S.glob S.sites (presOf P.tbl) S.em 454 (.fn P.f_bref13_Same) = true := by kernel_rfl
theorem k455 : chkE Go.Proofs.Tryz.prog S.fm S.glob S.sites (presOf P.tbl) S.em 455 (.fn P.f_bref06_Same) = true := by kernel_rfl
theorem k456 : chkE Go.Proofs.Tryz.prog S.fm S.glob S.sites (presOf P.tbl) S.em 456 (.fn P.f_plan_sites) = true := by kernel_rfl
theorem k457 : chkE Go.Proofs.Tryz.prog S.fm S.glob S.sites (presOf P.tbl) S.em 457 (.fn P.f_plan_asked) = true := by kernel_rfl
theorem k458 : chkE Go.Proofs.Tryz.prog S.fm S.glob S.sites (presOf P.tbl) S.em 458 (.fn P.f_plan_Into_1) = true := by kernel_rfl
theorem k459 : chkE Go.Proofs.Tryz.prog S.fm S.glob S.sites (presOf P.tbl) S.em 459 (.fn P.f_plan_some) = true := by kernel_rfl
theorem k460 : chkE Go.Proofs.Tryz.prog S.fm S.glob S.sites (presOf P.tbl) S.em 460 (.fn P.f_link_session) = true := by kernel_rfl
theorem k461 : chkE Go.Proofs.Tryz.prog S.fm S.glob S.sites (presOf P.tbl) S.em 461 (.fn P.f_plan_Outof_1) = true := by kernel_rfl
theorem k462 : chkE Go.Proofs.Tryz.prog S.fm S.glob S.sites (presOf P.tbl) S.em 462 (.fn P.f_task_copied) = true := by kernel_rfl
theorem k463 : chkE Go.Proofs.Tryz.prog S.fm S.glob S.sites (presOf P.tbl) S.em 463 (.fn P.f_task_right) = true := by kernel_rfl
theorem k464 : chkE Go.Proofs.Tryz.prog S.fm S.glob S.sites (presOf P.tbl) S.em 464 (.fn P.f_task_fill) = true := by kernel_rfl
theorem k465 : chkE Go.Proofs.Tryz.prog S.fm S.glob S.sites (presOf P.tbl) S.em 465 (.fn P.f_task_run) = true := by kernel_rfl
theorem k466 : chkE Go.Proofs.Tryz.prog S.fm S.glob S.sites (presOf P.tbl) S.em 466 (.fn P.f_task_over) = true := by kernel_rfl
theorem k467 : chkE Go.Proofs.Tryz.prog S.fm S.glob S.sites (presOf P.tbl) S.em 467 (.fn P.f_task_every_api_In) = true := by kernel_rfl
theorem k468 : chkE Go.Proofs.Tryz.prog S.fm S.glob S.sites (presOf P.tbl) S.em 468 (.fn P.f_task_over_1) = true := by kernel_rfl
theorem k469 : chkE Go.Proofs.Tryz.prog S.fm S.glob S.sites (presOf P.tbl) S.em 469 (.fn P.f_task_every_api_Out) = true := by kernel_rfl
theorem k470 : chkE Go.Proofs.Tryz.prog S.fm S.glob S.sites (presOf P.tbl) S.em 470 (.fn P.f_task_empty) = true := by kernel_rfl
theorem k471 : chkE Go.Proofs.Tryz.prog S.fm S.glob S.sites (presOf P.tbl) S.em 471 (.fn P.f_task_filled) = true := by kernel_rfl
theorem k472 : chkE Go.Proofs.Tryz.prog S.fm S.glob S.sites (presOf P.tbl) S.em 472 (.fn P.f_task_says) = true := by kernel_rfl
theorem k473 : chkE Go.Proofs.Tryz.prog S.fm S.glob S.sites (presOf P.tbl) S.em 473 (.fn P.f_task_collected_api_Msg) = true := by kernel_rfl
theorem k474 : chkE Go.Proofs.Tryz.prog S.fm S.glob S.sites (presOf P.tbl) S.em 474 (.round P.r_task_collected_api_Msg_0) = true := by kernel_rfl
theorem k475 : chkE Go.Proofs.Tryz.prog S.fm S.glob S.sites (presOf P.tbl) S.em 475 (.fn P.f_task_says_1) = true := by kernel_rfl
theorem k476 : chkE Go.Proofs.Tryz.prog S.fm S.glob S.sites (presOf P.tbl) S.em 476 (.fn P.f_expr_Same) = true := by kernel_rfl
theorem k477 : chkE Go.Proofs.Tryz.prog S.fm S.glob S.sites (presOf P.tbl) S.em 477 (.fn P.f_slices_EqualFunc_api_Agg_api_Agg_api_Agg_api_Agg) = true := by kernel_rfl
theorem k478 : chkE Go.Proofs.Tryz.prog S.fm S.glob S.sites (presOf P.tbl) S.em 478 (.fn P.f_slices_EqualFunc_api_Expr_api_Expr_api_Expr_api_Expr) = true := by kernel_rfl
theorem k479 : chkE Go.Proofs.Tryz.prog S.fm S.glob S.sites (presOf P.tbl) S.em 479 (.fn P.f_prop_Same_1_1) = true := by kernel_rfl
theorem k480 : chkE Go.Proofs.Tryz.prog S.fm S.glob S.sites (presOf P.tbl) S.em 480 (.fn P.f_slices_Equal_int_int) = true := by kernel_rfl
end Go.AM.K
