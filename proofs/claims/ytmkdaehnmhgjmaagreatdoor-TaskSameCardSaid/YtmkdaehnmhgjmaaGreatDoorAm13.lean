/- PRINTED by mktop.py: each function is the program's, as the kernel sees. -/
import Derived.Test.YtmkdaehnmhgjmaaGreatDoorAm09
import Derived.Test.YtmkdaehnmhgjmaaGreatDoorAm06
import Derived.Test.YtmkdaehnmhgjmaaGreatDoorProg
import Derived.KernelRfl
set_option linter.unusedVariables false
set_option linter.unusedSimpArgs false
namespace Go.AM.K
theorem k290 : chkE Go.Proofs.Tryz.prog S.fm S.glob S.sites (presOf P.tbl) S.em 290 (.fn P.f_arith_Div) = true := by kernel_rfl
theorem k291 : chkE Go.Proofs.Tryz.prog S.fm S.glob S.sites (presOf P.tbl) S.em 291 (.fn P.f_value_Equal) = true := by kernel_rfl
theorem k292 : chkE Go.Proofs.Tryz.prog S.fm S.glob S.sites (presOf P.tbl) S.em 292 (.fn P.f_expr_not) = true := by kernel_rfl
theorem k293 : chkE Go.Proofs.Tryz.prog S.fm S.glob S.sites (presOf P.tbl) S.em 293 (.fn P.f_value_Less) = true := by kernel_rfl
theorem k294 : chkE Go.Proofs.Tryz.prog S.fm S.glob S.sites (presOf P.tbl) S.em 294 (.fn P.f_value_And) = true := by kernel_rfl
theorem k295 : chkE Go.Proofs.Tryz.prog S.fm S.glob S.sites (presOf P.tbl) S.em 295 (.fn P.f_value_Or) = true := by kernel_rfl
theorem k296 : chkE Go.Proofs.Tryz.prog S.fm S.glob S.sites (presOf P.tbl) S.em 296 (.fn P.f_expr_turned) = true := by kernel_rfl
theorem k297 : chkE Go.Proofs.Tryz.prog S.fm S.glob S.sites (presOf P.tbl) S.em 297 (.fn P.f_expr_over_api_Value_1) = true := by kernel_rfl
theorem k316 : chkE Go.Proofs.Tryz.prog S.fm S.glob S.sites (presOf P.tbl) S.em 316 (.fn P.f_cmp_isNaN_int) = true := by kernel_rfl
theorem k317 : chkE Go.Proofs.Tryz.prog S.fm S.glob S.sites (presOf P.tbl) S.em 317 (.fn P.f_cmp_isNaN_int64) = true := by kernel_rfl
theorem k318 : chkE Go.Proofs.Tryz.prog S.fm S.glob S.sites (presOf P.tbl) S.em 318 (.fn P.f_cmp_isNaN_uint64) = true := by kernel_rfl
theorem k319 : chkE Go.Proofs.Tryz.prog S.fm S.glob S.sites (presOf P.tbl) S.em 319 (.fn P.f_cmp_isNaN_string) = true := by kernel_rfl
theorem k320 : chkE Go.Proofs.Tryz.prog S.fm S.glob S.sites (presOf P.tbl) S.em 320 (.fn P.f_slices_IndexFunc_api_Row_api_Value) = true := by kernel_rfl
theorem k321 : chkE Go.Proofs.Tryz.prog S.fm S.glob S.sites (presOf P.tbl) S.em 321 (.fn P.f_value_Bool) = true := by kernel_rfl
theorem k339 : chkE Go.Proofs.Tryz.prog S.fm S.glob S.sites (presOf P.tbl) S.em 339 (.fn P.f_slices_Grow_int_int) = true := by kernel_rfl
theorem k340 : chkE Go.Proofs.Tryz.prog S.fm S.glob S.sites (presOf P.tbl) S.em 340 (.fn P.f_expr_Kind_1) = true := by kernel_rfl
theorem k341 : chkE Go.Proofs.Tryz.prog S.fm S.glob S.sites (presOf P.tbl) S.em 341 (.fn P.f_expr_over_int) = true := by kernel_rfl
theorem k342 : chkE Go.Proofs.Tryz.prog S.fm S.glob S.sites (presOf P.tbl) S.em 342 (.fn P.f_expr_turned_1) = true := by kernel_rfl
theorem k343 : chkE Go.Proofs.Tryz.prog S.fm S.glob S.sites (presOf P.tbl) S.em 343 (.fn P.f_value_held) = true := by kernel_rfl
theorem k344 : chkE Go.Proofs.Tryz.prog S.fm S.glob S.sites (presOf P.tbl) S.em 344 (.fn P.f_value_Less_1) = true := by kernel_rfl
theorem k345 : chkE Go.Proofs.Tryz.prog S.fm S.glob S.sites (presOf P.tbl) S.em 345 (.fn P.f_expr_first_1) = true := by kernel_rfl
theorem k346 : chkE Go.Proofs.Tryz.prog S.fm S.glob S.sites (presOf P.tbl) S.em 346 (.fn P.f_value_logic) = true := by kernel_rfl
theorem k347 : chkE Go.Proofs.Tryz.prog S.fm S.glob S.sites (presOf P.tbl) S.em 347 (.fn P.f_value_Not_1) = true := by kernel_rfl
theorem k348 : chkE Go.Proofs.Tryz.prog S.fm S.glob S.sites (presOf P.tbl) S.em 348 (.fn P.f_expr_null_1) = true := by kernel_rfl
theorem k349 : chkE Go.Proofs.Tryz.prog S.fm S.glob S.sites (presOf P.tbl) S.em 349 (.fn P.f_arith_do) = true := by kernel_rfl
theorem k350 : chkE Go.Proofs.Tryz.prog S.fm S.glob S.sites (presOf P.tbl) S.em 350 (.fn P.f_arith_Add_1) = true := by kernel_rfl
theorem k351 : chkE Go.Proofs.Tryz.prog S.fm S.glob S.sites (presOf P.tbl) S.em 351 (.fn P.f_arith_Sub_1) = true := by kernel_rfl
theorem k352 : chkE Go.Proofs.Tryz.prog S.fm S.glob S.sites (presOf P.tbl) S.em 352 (.fn P.f_arith_Mul_1) = true := by kernel_rfl
theorem k353 : chkE Go.Proofs.Tryz.prog S.fm S.glob S.sites (presOf P.tbl) S.em 353 (.fn P.f_arith_Div_1) = true := by kernel_rfl
theorem k354 : chkE Go.Proofs.Tryz.prog S.fm S.glob S.sites (presOf P.tbl) S.em 354 (.fn P.f_value_Equal_1) = true := by kernel_rfl
theorem k355 : chkE Go.Proofs.Tryz.prog S.fm S.glob S.sites (presOf P.tbl) S.em 355 (.fn P.f_expr_not_1) = true := by kernel_rfl
theorem k356 : chkE Go.Proofs.Tryz.prog S.fm S.glob S.sites (presOf P.tbl) S.em 356 (.fn P.f_value_And_1) = true := by kernel_rfl
theorem k357 : chkE Go.Proofs.Tryz.prog S.fm S.glob S.sites (presOf P.tbl) S.em 357 (.fn P.f_value_Or_1) = true := by kernel_rfl
theorem k358 : chkE Go.Proofs.Tryz.prog S.fm S.glob S.sites (presOf P.tbl) S.em 358 (.nilfn P.f_slices_Clone_api_Value_api_Value) = true := by kernel_rfl
theorem k374 : chkE Go.Proofs.Tryz.prog S.fm S.glob S.sites (presOf P.tbl) S.em 374 (.fn P.f_expr_over_int_1) = true := by kernel_rfl
theorem k375 : chkE Go.Proofs.Tryz.prog S.fm S.glob S.sites (presOf P.tbl) S.em 375 (.fn P.f_expr_arithmetic) = true := by kernel_rfl
theorem k386 : chkE Go.Proofs.Tryz.prog S.fm S.glob S.sites (presOf P.tbl) S.em 386 (.fn P.f_value_Compare) = true := by kernel_rfl
theorem k387 : chkE Go.Proofs.Tryz.prog S.fm S.glob S.sites (presOf P.tbl) S.em 387 (.fn P.f_value_right) = true := by kernel_rfl
theorem k388 : chkE Go.Proofs.Tryz.prog S.fm S.glob S.sites (presOf P.tbl) S.em 388 (.fn P.f_value_truth) = true := by kernel_rfl
theorem k389 : chkE Go.Proofs.Tryz.prog S.fm S.glob S.sites (presOf P.tbl) S.em 389 (.fn P.f_arith_signed) = true := by kernel_rfl
theorem k390 : chkE Go.Proofs.Tryz.prog S.fm S.glob S.sites (presOf P.tbl) S.em 390 (.fn P.f_arith_size) = true := by kernel_rfl
theorem k398 : chkE Go.Proofs.Tryz.prog S.fm S.glob S.sites (presOf P.tbl) S.em 398 (.fn P.f_strings_Compare) = true := by kernel_rfl
theorem k401 : chkE Go.Proofs.Tryz.prog S.fm S.glob S.sites (presOf P.tbl) S.em 401 (.fn P.f_internal_bytealg_CompareString) = true := by kernel_rfl
theorem k410 : chkE Go.Proofs.Tryz.prog S.fm S.glob S.sites (presOf P.tbl) S.em 410 (.fn P.f_task_Same) = true := by kernel_rfl
theorem k411 : chkE Go.Proofs.Tryz.prog S.fm S.glob S.sites (presOf P.tbl) S.em 411 (.fn P.f_bref25_Same) = true := by kernel_rfl
theorem k412 : chkE Go.Proofs.Tryz.prog S.fm S.glob S.sites (presOf P.tbl) S.em 412 (.fn P.f_bref23_Same) = true := by kernel_rfl
theorem k413 : chkE Go.Proofs.Tryz.prog S.fm S.glob S.sites (presOf P.tbl) S.em 413 (.fn P.f_blaw25_over) = true := by kernel_rfl
theorem k414 : chkE Go.Proofs.Tryz.prog S.fm S.glob S.sites (presOf P.tbl) S.em 414 (.fn P.f_blaw25_wakes) = true := by kernel_rfl
theorem k415 : chkE Go.Proofs.Tryz.prog S.fm S.glob S.sites (presOf P.tbl) S.em 415 (.fn P.f_blaw25_TaskSame) = true := by kernel_rfl
theorem k416 : chkE Go.Proofs.Tryz.prog S.fm S.glob S.sites (presOf P.tbl) S.em 416 (.fn P.f_task_Tick) = true := by kernel_rfl
theorem k417 : chkE Go.Proofs.Tryz.prog S.fm S.glob S.sites (presOf P.tbl) S.em 417 (.fn P.f_blaw25_n) = true := by kernel_rfl
theorem k418 : chkE Go.Proofs.Tryz.prog S.fm S.glob S.sites (presOf P.tbl) S.em 418 (.fn P.f_task_Go) = true := by kernel_rfl
theorem k419 : chkE Go.Proofs.Tryz.prog S.fm S.glob S.sites (presOf P.tbl) S.em 419 (.fn P.f_blaw25_two) = true := by kernel_rfl
theorem k420 : chkE Go.Proofs.Tryz.prog S.fm S.glob S.sites (presOf P.tbl) S.em 420 (.fn P.f_task_Begin) = true := by kernel_rfl
theorem k421 : chkE Go.Proofs.Tryz.prog S.fm S.glob S.sites (presOf P.tbl) S.em 421 (.fn P.f_blaw25_overRows) = true := by kernel_rfl
theorem k422 : chkE Go.Proofs.Tryz.prog S.fm S.glob S.sites (presOf P.tbl) S.em 422 (.fn P.f_blaw25_overBatches) = true := by kernel_rfl
theorem k423 : chkE Go.Proofs.Tryz.prog S.fm S.glob S.sites (presOf P.tbl) S.em 423 (.fn P.f_blaw25_overNodes) = true := by kernel_rfl
end Go.AM.K
