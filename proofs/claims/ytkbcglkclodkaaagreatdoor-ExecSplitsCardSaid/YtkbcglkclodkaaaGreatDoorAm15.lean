/- PRINTED by mktop.py: each function is the program's, as the kernel sees. -/
import Derived.Test.YtkbcglkclodkaaaGreatDoorAm09
import Derived.Test.YtkbcglkclodkaaaGreatDoorAm06
import Derived.Test.YtkbcglkclodkaaaGreatDoorProg
import Derived.KernelRfl
set_option linter.unusedVariables false
set_option linter.unusedSimpArgs false
namespace Go.AM.K
theorem k295 : ck 295 (.fn P.f_value_Or) = true := by kernel_rfl
theorem k296 : ck 296 (.fn P.f_expr_turned) = true := by kernel_rfl
theorem k297 : ck 297 (.fn P.f_expr_over_api_Value_1) = true := by kernel_rfl
theorem k316 : ck 316 (.fn P.f_cmp_isNaN_int) = true := by kernel_rfl
theorem k317 : ck 317 (.fn P.f_cmp_isNaN_int64) = true := by kernel_rfl
theorem k318 : ck 318 (.fn P.f_cmp_isNaN_uint64) = true := by kernel_rfl
theorem k319 : ck 319 (.fn P.f_cmp_isNaN_string) = true := by kernel_rfl
theorem k320 : ck 320 (.fn P.f_slices_IndexFunc_api_Row_api_Value) = true := by kernel_rfl
theorem k321 : ck 321 (.fn P.f_value_Bool) = true := by kernel_rfl
theorem k339 : ck 339 (.fn P.f_slices_Grow_int_int) = true := by kernel_rfl
theorem k340 : ck 340 (.fn P.f_expr_Kind_1) = true := by kernel_rfl
theorem k341 : ck 341 (.fn P.f_expr_over_int) = true := by kernel_rfl
theorem k342 : ck 342 (.fn P.f_expr_turned_1) = true := by kernel_rfl
theorem k343 : ck 343 (.fn P.f_value_held) = true := by kernel_rfl
theorem k344 : ck 344 (.fn P.f_value_Less_1) = true := by kernel_rfl
theorem k345 : ck 345 (.fn P.f_expr_first_1) = true := by kernel_rfl
theorem k346 : ck 346 (.fn P.f_value_logic) = true := by kernel_rfl
theorem k347 : ck 347 (.fn P.f_value_Not_1) = true := by kernel_rfl
theorem k348 : ck 348 (.fn P.f_expr_null_1) = true := by kernel_rfl
theorem k349 : ck 349 (.fn P.f_arith_do) = true := by kernel_rfl
theorem k350 : ck 350 (.fn P.f_arith_Add_1) = true := by kernel_rfl
theorem k351 : ck 351 (.fn P.f_arith_Sub_1) = true := by kernel_rfl
theorem k352 : ck 352 (.fn P.f_arith_Mul_1) = true := by kernel_rfl
theorem k353 : ck 353 (.fn P.f_arith_Div_1) = true := by kernel_rfl
theorem k354 : ck 354 (.fn P.f_value_Equal_1) = true := by kernel_rfl
theorem k355 : ck 355 (.fn P.f_expr_not_1) = true := by kernel_rfl
theorem k356 : ck 356 (.fn P.f_value_And_1) = true := by kernel_rfl
theorem k357 : ck 357 (.fn P.f_value_Or_1) = true := by kernel_rfl
theorem k358 : ck 358 (.nilfn P.f_slices_Clone_api_Value_api_Value) = true := by kernel_rfl
theorem k374 : ck 374 (.fn P.f_expr_over_int_1) = true := by kernel_rfl
theorem k375 : ck 375 (.fn P.f_expr_arithmetic) = true := by kernel_rfl
theorem k386 : ck 386 (.fn P.f_value_Compare) = true := by kernel_rfl
theorem k387 : ck 387 (.fn P.f_value_right) = true := by kernel_rfl
theorem k388 : ck 388 (.fn P.f_value_truth) = true := by kernel_rfl
theorem k389 : ck 389 (.fn P.f_arith_signed) = true := by kernel_rfl
theorem k390 : ck 390 (.fn P.f_arith_size) = true := by kernel_rfl
theorem k398 : ck 398 (.fn P.f_strings_Compare) = true := by kernel_rfl
theorem k401 : ck 401 (.fn P.f_internal_bytealg_CompareString) = true := by kernel_rfl
theorem k408 : ck 408 (.fn P.f_blaw20_ExecSplits) = true := by kernel_rfl
end Go.AM.K
