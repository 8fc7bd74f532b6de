/- PRINTED by mktop.py: each function is the program's, as the kernel sees. -/
import Derived.Test.YtkbcglkclodkaaaGreatDoorAm09
import Derived.Test.YtkbcglkclodkaaaGreatDoorAm06
import Derived.Test.YtkbcglkclodkaaaGreatDoorProg
import Derived.KernelRfl
set_option linter.unusedVariables false
set_option linter.unusedSimpArgs false
namespace Go.AM.K
theorem k181 : ck 181 (.fn P.f_prop_laid_group) = true := by kernel_rfl
theorem k182 : ck 182 (.fn P.f_prop_laid_partial) = true := by kernel_rfl
theorem k183 : ck 183 (.fn P.f_prop_laid_final) = true := by kernel_rfl
theorem k184 : ck 184 (.fn P.f_prop_laid_project) = true := by kernel_rfl
theorem k185 : ck 185 (.fn P.f_prop_laid_keeps) = true := by kernel_rfl
theorem k186 : ck 186 (.fn P.f_prop_laid_union) = true := by kernel_rfl
theorem k187 : ck 187 (.fn P.f_prop_laid_sort) = true := by kernel_rfl
theorem k188 : ck 188 (.fn P.f_slices_Contains_int_int) = true := by kernel_rfl
theorem k189 : ck 189 (.fn P.f_prop_blank) = true := by kernel_rfl
theorem k190 : ck 190 (.fn P.f_prop_parts) = true := by kernel_rfl
theorem k191 : ck 191 (.fn P.f_exec_sorted) = true := by kernel_rfl
theorem k192 : ck 192 (.fn P.f_exec_holds) = true := by kernel_rfl
theorem k193 : ck 193 (.round P.r_exec_run_join_0) = true := by kernel_rfl
theorem k194 : ck 194 (.fn P.f_exec_pairs) = true := by kernel_rfl
theorem k195 : ck 195 (.fn P.f_exec_run_group_1) = true := by kernel_rfl
theorem k196 : ck 196 (.fn P.f_slices_IndexFunc_api_Ord_api_Ord) = true := by kernel_rfl
theorem k197 : ck 197 (.fn P.f_row_Check) = true := by kernel_rfl
theorem k198 : ck 198 (.fn P.f_denote_by_1) = true := by kernel_rfl
theorem k199 : ck 199 (.round P.r_exec_grouped_0) = true := by kernel_rfl
theorem k200 : ck 200 (.fn P.f_exec_groups) = true := by kernel_rfl
theorem k201 : ck 201 (.fn P.f_arith_Sum) = true := by kernel_rfl
theorem k202 : ck 202 (.fn P.f_value_Null) = true := by kernel_rfl
theorem k203 : ck 203 (.fn P.f_expr_Eval_1) = true := by kernel_rfl
theorem k204 : ck 204 (.fn P.f_expr_over_api_Value) = true := by kernel_rfl
theorem k205 : ck 205 (.fn P.f_expr_does) = true := by kernel_rfl
theorem k206 : ck 206 (.fn P.f_value_Plain) = true := by kernel_rfl
theorem k207 : ck 207 (.fn P.f_expr_Cols) = true := by kernel_rfl
theorem k208 : ck 208 (.fn P.f_arith_wide) = true := by kernel_rfl
theorem k209 : ck 209 (.fn P.f_arith_plus) = true := by kernel_rfl
theorem k210 : ck 210 (.fn P.f_arith_are) = true := by kernel_rfl
theorem k211 : ck 211 (.fn P.f_exec_summed) = true := by kernel_rfl
theorem k212 : ck 212 (.fn P.f_arith_Join) = true := by kernel_rfl
theorem k213 : ck 213 (.fn P.f_exec_final_1_1) = true := by kernel_rfl
theorem k214 : ck 214 (.fn P.f_row_Compare) = true := by kernel_rfl
theorem k215 : ck 215 (.fn P.f_arith_End) = true := by kernel_rfl
theorem k230 : ck 230 (.fn P.f_row_has_1) = true := by kernel_rfl
theorem k242 : ck 242 (.fn P.f_cmp_Compare_int) = true := by kernel_rfl
theorem k243 : ck 243 (.fn P.f_cmp_Compare_int64) = true := by kernel_rfl
theorem k244 : ck 244 (.fn P.f_cmp_Compare_uint64) = true := by kernel_rfl
end Go.AM.K
