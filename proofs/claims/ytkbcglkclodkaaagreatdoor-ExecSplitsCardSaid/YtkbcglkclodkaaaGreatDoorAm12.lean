/- PRINTED by mktop.py: each function is the program's, as the kernel sees. -/
import Derived.Test.YtkbcglkclodkaaaGreatDoorAm09
import Derived.Test.YtkbcglkclodkaaaGreatDoorAm06
import Derived.Test.YtkbcglkclodkaaaGreatDoorProg
import Derived.KernelRfl
set_option linter.unusedVariables false
set_option linter.unusedSimpArgs false
namespace Go.AM.K
theorem k116 : ck 116 (.fn P.f_row_equal) = true := by kernel_rfl
theorem k117 : ck 117 (.fn P.f_blaw20_cut_api_ENode) = true := by kernel_rfl
theorem k118 : ck 118 (.fn P.f_exec_asked_1) = true := by kernel_rfl
theorem k119 : ck 119 (.fn P.f_exec_grouped) = true := by kernel_rfl
theorem k120 : ck 120 (.fn P.f_exec_partial_1) = true := by kernel_rfl
theorem k121 : ck 121 (.fn P.f_exec_final_1) = true := by kernel_rfl
theorem k136 : ck 136 (.fn P.f_bref05_Value) = true := by kernel_rfl
theorem k137 : ck 137 (.fn P.f_bref05_sign) = true := by kernel_rfl
theorem k138 : ck 138 (.fn P.f_row_has) = true := by kernel_rfl
theorem k139 : ck 139 (.fn P.f_row_asked_1) = true := by kernel_rfl
theorem k140 : ck 140 (.fn P.f_row_order) = true := by kernel_rfl
theorem k141 : ck 141 (.fn P.f_cmp_Or_int) = true := by kernel_rfl
theorem k142 : ck 142 (.fn P.f_slices_CompareFunc_api_Row_api_Row_api_Value_api_Value) = true := by kernel_rfl
theorem k143 : ck 143 (.fn P.f_row_values) = true := by kernel_rfl
theorem k144 : ck 144 (.fn P.f_slices_Equal_api_Row_api_Value) = true := by kernel_rfl
theorem k145 : ck 145 (.fn P.f_row_runs_1) = true := by kernel_rfl
theorem k146 : ck 146 (.fn P.f_expr_firsts) = true := by kernel_rfl
theorem k147 : ck 147 (.fn P.f_slices_MaxFunc_api_Value_api_Value) = true := by kernel_rfl
theorem k148 : ck 148 (.fn P.f_denote_values) = true := by kernel_rfl
theorem k149 : ck 149 (.fn P.f_value_Int) = true := by kernel_rfl
theorem k150 : ck 150 (.fn P.f_arith_All) = true := by kernel_rfl
theorem k151 : ck 151 (.fn P.f_slices_MinFunc_api_Value_api_Value) = true := by kernel_rfl
theorem k152 : ck 152 (.fn P.f_slices_ContainsFunc_api_Value_api_Value) = true := by kernel_rfl
theorem k153 : ck 153 (.fn P.f_denote_aggregate_1) = true := by kernel_rfl
theorem k154 : ck 154 (.fn P.f_denote_args) = true := by kernel_rfl
theorem k160 : ck 160 (.fn P.f_slices_IndexFunc_int_int) = true := by kernel_rfl
theorem k161 : ck 161 (.fn P.f_exec_fit_1) = true := by kernel_rfl
theorem k162 : ck 162 (.fn P.f_math_bits_Mul) = true := by kernel_rfl
theorem k163 : ck 163 (.fn P.f_row_right) = true := by kernel_rfl
theorem k164 : ck 164 (.fn P.f_slices_Grow_api_Row_api_Row) = true := by kernel_rfl
theorem k165 : ck 165 (.fn P.f_sum_Sum32) = true := by kernel_rfl
theorem k166 : ck 166 (.fn P.f_row_number) = true := by kernel_rfl
theorem k168 : ck 168 (.fn P.f_slices_Concat_api_Row_api_Value) = true := by kernel_rfl
theorem k172 : ck 172 (.fn P.f_expr_Eval) = true := by kernel_rfl
theorem k173 : ck 173 (.fn P.f_row_Distinct) = true := by kernel_rfl
theorem k177 : ck 177 (.fn P.f_prop_laid_scan) = true := by kernel_rfl
theorem k178 : ck 178 (.fn P.f_prop_laid_input) = true := by kernel_rfl
theorem k179 : ck 179 (.fn P.f_prop_laid_join) = true := by kernel_rfl
theorem k180 : ck 180 (.fn P.f_prop_laid_filter) = true := by kernel_rfl
end Go.AM.K
