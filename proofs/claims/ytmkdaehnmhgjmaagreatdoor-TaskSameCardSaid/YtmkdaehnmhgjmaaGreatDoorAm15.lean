/- PRINTED by mktop.py: each function is the program's, as the kernel sees. -/
import Derived.Test.YtmkdaehnmhgjmaaGreatDoorAm09
import Derived.Test.YtmkdaehnmhgjmaaGreatDoorAm06
import Derived.Test.YtmkdaehnmhgjmaaGreatDoorProg
import Derived.KernelRfl
set_option linter.unusedVariables false
set_option linter.unusedSimpArgs false
namespace Go.AM.K
theorem k481 : chkE Go.Proofs.Tryz.prog S.fm S.glob S.sites (presOf P.tbl) S.em 481 (.fn P.f_slices_Equal_api_Ord_api_Ord) = true := by kernel_rfl
theorem k482 : chkE Go.Proofs.Tryz.prog S.fm S.glob S.sites (presOf P.tbl) S.em 482 (.fn P.f_slices_Equal_api_ENode_api_ENode) = true := by kernel_rfl
theorem k483 : chkE Go.Proofs.Tryz.prog S.fm S.glob S.sites (presOf P.tbl) S.em 483 (.fn P.f_slices_EqualFunc_api_LNode_api_LNode_api_LNode_api_LNode) = true := by kernel_rfl
theorem k484 : chkE Go.Proofs.Tryz.prog S.fm S.glob S.sites (presOf P.tbl) S.em 484 (.fn P.f_bref13_SameNode) = true := by kernel_rfl
theorem k485 : chkE Go.Proofs.Tryz.prog S.fm S.glob S.sites (presOf P.tbl) S.em 485 (.fn P.f_bref06_SameRow) = true := by kernel_rfl
theorem k486 : chkE Go.Proofs.Tryz.prog S.fm S.glob S.sites (presOf P.tbl) S.em 486 (.fn P.f_plan_upTo) = true := by kernel_rfl
theorem k487 : chkE Go.Proofs.Tryz.prog S.fm S.glob S.sites (presOf P.tbl) S.em 487 (.round P.r_plan_some_0) = true := by kernel_rfl
theorem k488 : chkE Go.Proofs.Tryz.prog S.fm S.glob S.sites (presOf P.tbl) S.em 488 (.fn P.f_plan_all) = true := by kernel_rfl
theorem k489 : chkE Go.Proofs.Tryz.prog S.fm S.glob S.sites (presOf P.tbl) S.em 489 (.fn P.f_task_stands) = true := by kernel_rfl
theorem k490 : chkE Go.Proofs.Tryz.prog S.fm S.glob S.sites (presOf P.tbl) S.em 490 (.fn P.f_task_out) = true := by kernel_rfl
theorem k491 : chkE Go.Proofs.Tryz.prog S.fm S.glob S.sites (presOf P.tbl) S.em 491 (.fn P.f_task_in) = true := by kernel_rfl
theorem k492 : chkE Go.Proofs.Tryz.prog S.fm S.glob S.sites (presOf P.tbl) S.em 492 (.fn P.f_task_rows) = true := by kernel_rfl
theorem k493 : chkE Go.Proofs.Tryz.prog S.fm S.glob S.sites (presOf P.tbl) S.em 493 (.nilfn P.f_slices_Clone_api_In_api_In) = true := by kernel_rfl
theorem k494 : chkE Go.Proofs.Tryz.prog S.fm S.glob S.sites (presOf P.tbl) S.em 494 (.nilfn P.f_slices_Clone_api_Out_api_Out) = true := by kernel_rfl
theorem k495 : chkE Go.Proofs.Tryz.prog S.fm S.glob S.sites (presOf P.tbl) S.em 495 (.fn P.f_task_every_api_In_1) = true := by kernel_rfl
theorem k496 : chkE Go.Proofs.Tryz.prog S.fm S.glob S.sites (presOf P.tbl) S.em 496 (.fn P.f_slices_ContainsFunc_api_In_api_In) = true := by kernel_rfl
theorem k497 : chkE Go.Proofs.Tryz.prog S.fm S.glob S.sites (presOf P.tbl) S.em 497 (.fn P.f_link_Close) = true := by kernel_rfl
theorem k498 : chkE Go.Proofs.Tryz.prog S.fm S.glob S.sites (presOf P.tbl) S.em 498 (.fn P.f_link_Put) = true := by kernel_rfl
theorem k499 : chkE Go.Proofs.Tryz.prog S.fm S.glob S.sites (presOf P.tbl) S.em 499 (.fn P.f_task_every_api_Out_1) = true := by kernel_rfl
theorem k500 : chkE Go.Proofs.Tryz.prog S.fm S.glob S.sites (presOf P.tbl) S.em 500 (.fn P.f_slices_ContainsFunc_api_Out_api_Out) = true := by kernel_rfl
theorem k501 : chkE Go.Proofs.Tryz.prog S.fm S.glob S.sites (presOf P.tbl) S.em 501 (.fn P.f_link_Ack) = true := by kernel_rfl
theorem k502 : chkE Go.Proofs.Tryz.prog S.fm S.glob S.sites (presOf P.tbl) S.em 502 (.fn P.f_link_Tick) = true := by kernel_rfl
theorem k503 : chkE Go.Proofs.Tryz.prog S.fm S.glob S.sites (presOf P.tbl) S.em 503 (.fn P.f_link_Tick_1) = true := by kernel_rfl
theorem k504 : chkE Go.Proofs.Tryz.prog S.fm S.glob S.sites (presOf P.tbl) S.em 504 (.fn P.f_link_sends) = true := by kernel_rfl
theorem k505 : chkE Go.Proofs.Tryz.prog S.fm S.glob S.sites (presOf P.tbl) S.em 505 (.fn P.f_link_limit) = true := by kernel_rfl
theorem k506 : chkE Go.Proofs.Tryz.prog S.fm S.glob S.sites (presOf P.tbl) S.em 506 (.fn P.f_link_CheckReceiver) = true := by kernel_rfl
theorem k507 : chkE Go.Proofs.Tryz.prog S.fm S.glob S.sites (presOf P.tbl) S.em 507 (.fn P.f_bref10_Same) = true := by kernel_rfl
theorem k508 : chkE Go.Proofs.Tryz.prog S.fm S.glob S.sites (presOf P.tbl) S.em 508 (.fn P.f_bref10_SameAll) = true := by kernel_rfl
theorem k509 : chkE Go.Proofs.Tryz.prog S.fm S.glob S.sites (presOf P.tbl) S.em 509 (.fn P.f_plan_all_1) = true := by kernel_rfl
theorem k510 : chkE Go.Proofs.Tryz.prog S.fm S.glob S.sites (presOf P.tbl) S.em 510 (.fn P.f_task_rows_1) = true := by kernel_rfl
theorem k511 : chkE Go.Proofs.Tryz.prog S.fm S.glob S.sites (presOf P.tbl) S.em 511 (.fn P.f_link_CheckSender) = true := by kernel_rfl
theorem k512 : chkE Go.Proofs.Tryz.prog S.fm S.glob S.sites (presOf P.tbl) S.em 512 (.fn P.f_task_stands_1) = true := by kernel_rfl
theorem k513 : chkE Go.Proofs.Tryz.prog S.fm S.glob S.sites (presOf P.tbl) S.em 513 (.fn P.f_slices_IndexFunc_api_In_api_In) = true := by kernel_rfl
theorem k514 : chkE Go.Proofs.Tryz.prog S.fm S.glob S.sites (presOf P.tbl) S.em 514 (.fn P.f_link_Put_1) = true := by kernel_rfl
theorem k515 : chkE Go.Proofs.Tryz.prog S.fm S.glob S.sites (presOf P.tbl) S.em 515 (.fn P.f_link_Close_1) = true := by kernel_rfl
theorem k516 : chkE Go.Proofs.Tryz.prog S.fm S.glob S.sites (presOf P.tbl) S.em 516 (.fn P.f_slices_IndexFunc_api_Out_api_Out) = true := by kernel_rfl
theorem k517 : chkE Go.Proofs.Tryz.prog S.fm S.glob S.sites (presOf P.tbl) S.em 517 (.nilfn P.f_slices_Clone_api_Batch_api_Batch) = true := by kernel_rfl
theorem k518 : chkE Go.Proofs.Tryz.prog S.fm S.glob S.sites (presOf P.tbl) S.em 518 (.fn P.f_link_data) = true := by kernel_rfl
theorem k519 : chkE Go.Proofs.Tryz.prog S.fm S.glob S.sites (presOf P.tbl) S.em 519 (.fn P.f_link_collected_api_Packet) = true := by kernel_rfl
theorem k520 : chkE Go.Proofs.Tryz.prog S.fm S.glob S.sites (presOf P.tbl) S.em 520 (.round P.r_link_collected_api_Packet_0) = true := by kernel_rfl
theorem k521 : chkE Go.Proofs.Tryz.prog S.fm S.glob S.sites (presOf P.tbl) S.em 521 (.fn P.f_link_data_1) = true := by kernel_rfl
theorem k522 : chkE Go.Proofs.Tryz.prog S.fm S.glob S.sites (presOf P.tbl) S.em 522 (.fn P.f_link_batch) = true := by kernel_rfl
theorem k523 : chkE Go.Proofs.Tryz.prog S.fm S.glob S.sites (presOf P.tbl) S.em 523 (.fn P.f_link_inRow) = true := by kernel_rfl
theorem k524 : chkE Go.Proofs.Tryz.prog S.fm S.glob S.sites (presOf P.tbl) S.em 524 (.fn P.f_link_ends) = true := by kernel_rfl
theorem k525 : chkE Go.Proofs.Tryz.prog S.fm S.glob S.sites (presOf P.tbl) S.em 525 (.fn P.f_plan_reader) = true := by kernel_rfl
theorem k526 : chkE Go.Proofs.Tryz.prog S.fm S.glob S.sites (presOf P.tbl) S.em 526 (.fn P.f_prop_Reader) = true := by kernel_rfl
theorem k527 : chkE Go.Proofs.Tryz.prog S.fm S.glob S.sites (presOf P.tbl) S.em 527 (.fn P.f_link_last) = true := by kernel_rfl
theorem k528 : chkE Go.Proofs.Tryz.prog S.fm S.glob S.sites (presOf P.tbl) S.em 528 (.fn P.f_task_fresh) = true := by kernel_rfl
theorem k529 : chkE Go.Proofs.Tryz.prog S.fm S.glob S.sites (presOf P.tbl) S.em 529 (.fn P.f_link_puts) = true := by kernel_rfl
theorem k530 : chkE Go.Proofs.Tryz.prog S.fm S.glob S.sites (presOf P.tbl) S.em 530 (.fn P.f_link_rows) = true := by kernel_rfl
theorem k531 : chkE Go.Proofs.Tryz.prog S.fm S.glob S.sites (presOf P.tbl) S.em 531 (.fn P.f_link_rows_1) = true := by kernel_rfl
theorem k532 : chkE Go.Proofs.Tryz.prog S.fm S.glob S.sites (presOf P.tbl) S.em 532 (.round P.r_prop_Reader_0) = true := by kernel_rfl
theorem k533 : chkE Go.Proofs.Tryz.prog S.fm S.glob S.sites (presOf P.tbl) S.em 533 (.fn P.f_prop_inputs) = true := by kernel_rfl
theorem k534 : chkE Go.Proofs.Tryz.prog S.fm S.glob S.sites (presOf P.tbl) S.em 534 (.fn P.f_prop_inputs_1) = true := by kernel_rfl
end Go.AM.K
