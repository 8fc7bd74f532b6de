/- PRINTED by mktop.py: each function is the program's, as the kernel sees. -/
import Derived.Test.YtkbcglkclodkaaaGreatDoorAm09
import Derived.Test.YtkbcglkclodkaaaGreatDoorAm06
import Derived.Test.YtkbcglkclodkaaaGreatDoorProg
import Derived.KernelRfl
set_option linter.unusedVariables false
set_option linter.unusedSimpArgs false
namespace Go.AM.K
theorem k245 : ck 245 (.fn P.f_cmp_Compare_string) = true := by kernel_rfl
theorem k246 : ck 246 (.fn P.f_expr_counts) = true := by kernel_rfl
theorem k247 : ck 247 (.fn P.f_expr_parts) = true := by kernel_rfl
theorem k248 : ck 248 (.fn P.f_slices_IndexFunc_api_Value_api_Value) = true := by kernel_rfl
theorem k253 : ck 253 (.fn P.f_slices_EqualFunc_api_Row_int_api_Value_int) = true := by kernel_rfl
theorem k254 : ck 254 (.fn P.f_exec_fit_1_1) = true := by kernel_rfl
theorem k255 : ck 255 (.fn P.f_value_Check) = true := by kernel_rfl
theorem k256 : ck 256 (.fn P.f_value_blank) = true := by kernel_rfl
theorem k257 : ck 257 (.fn P.f_math_bits_Mul64) = true := by kernel_rfl
theorem k258 : ck 258 (.fn P.f_math_bits_Mul32) = true := by kernel_rfl
theorem k259 : ck 259 (.fn P.f_slices_ContainsFunc_api_Row_api_Value) = true := by kernel_rfl
theorem k260 : ck 260 (.fn P.f_row_right_1) = true := by kernel_rfl
theorem k261 : ck 261 (.fn P.f_sum_Sum32_1) = true := by kernel_rfl
theorem k262 : ck 262 (.fn P.f_sum_steps) = true := by kernel_rfl
theorem k264 : ck 264 (.fn P.f_value_True) = true := by kernel_rfl
theorem k265 : ck 265 (.fn P.f_slices_Grow_api_Row_api_Value) = true := by kernel_rfl
theorem k266 : ck 266 (.fn P.f_slices_CompactFunc_api_Row_api_Row) = true := by kernel_rfl
theorem k272 : ck 272 (.fn P.f_prop_laid_scan_1) = true := by kernel_rfl
theorem k273 : ck 273 (.fn P.f_prop_laid_input_1) = true := by kernel_rfl
theorem k274 : ck 274 (.fn P.f_prop_truth) = true := by kernel_rfl
theorem k275 : ck 275 (.fn P.f_slices_Concat_int_int) = true := by kernel_rfl
theorem k276 : ck 276 (.fn P.f_expr_Kind) = true := by kernel_rfl
theorem k277 : ck 277 (.fn P.f_prop_laid_sort_1) = true := by kernel_rfl
theorem k278 : ck 278 (.fn P.f_slices_Index_int_int) = true := by kernel_rfl
theorem k279 : ck 279 (.fn P.f_exec_pairs_1) = true := by kernel_rfl
theorem k280 : ck 280 (.fn P.f_exec_groups_1) = true := by kernel_rfl
theorem k281 : ck 281 (.fn P.f_slices_Compact_int_int) = true := by kernel_rfl
theorem k283 : ck 283 (.fn P.f_expr_first) = true := by kernel_rfl
theorem k284 : ck 284 (.fn P.f_arith_Neg) = true := by kernel_rfl
theorem k285 : ck 285 (.fn P.f_value_Not) = true := by kernel_rfl
theorem k286 : ck 286 (.fn P.f_expr_null) = true := by kernel_rfl
theorem k287 : ck 287 (.fn P.f_arith_Add) = true := by kernel_rfl
theorem k288 : ck 288 (.fn P.f_arith_Sub) = true := by kernel_rfl
theorem k289 : ck 289 (.fn P.f_arith_Mul) = true := by kernel_rfl
theorem k290 : ck 290 (.fn P.f_arith_Div) = true := by kernel_rfl
theorem k291 : ck 291 (.fn P.f_value_Equal) = true := by kernel_rfl
theorem k292 : ck 292 (.fn P.f_expr_not) = true := by kernel_rfl
theorem k293 : ck 293 (.fn P.f_value_Less) = true := by kernel_rfl
theorem k294 : ck 294 (.fn P.f_value_And) = true := by kernel_rfl
end Go.AM.K
