/- PRINTED by mktop.py: each function is the program's, as the kernel sees. -/
import Derived.Test.YtmkdaehnmhgjmaaGreatDoorAm09
import Derived.Test.YtmkdaehnmhgjmaaGreatDoorAm06
import Derived.Test.YtmkdaehnmhgjmaaGreatDoorProg
import Derived.KernelRfl
set_option linter.unusedVariables false
set_option linter.unusedSimpArgs false
namespace Go.AM.K
theorem k112 : chkE Go.Proofs.Tryz.prog S.fm S.glob S.sites (presOf P.tbl) S.em 112 (.fn P.f_slices_IndexFunc_api_Row_api_Row) = true := by kernel_rfl
theorem k113 : chkE Go.Proofs.Tryz.prog S.fm S.glob S.sites (presOf P.tbl) S.em 113 (.fn P.f_denote_by) = true := by kernel_rfl
theorem k114 : chkE Go.Proofs.Tryz.prog S.fm S.glob S.sites (presOf P.tbl) S.em 114 (.nilfn P.f_slices_Clone_api_Row_api_Value) = true := by kernel_rfl
theorem k115 : chkE Go.Proofs.Tryz.prog S.fm S.glob S.sites (presOf P.tbl) S.em 115 (.fn P.f_slices_EqualFunc_api_Row_api_Row_api_Row_api_Row) = true := by kernel_rfl
theorem k116 : chkE Go.Proofs.Tryz.prog S.fm S.glob S.sites (presOf P.tbl) S.em 116 (.fn P.f_row_equal) = true := by kernel_rfl
theorem k119 : chkE Go.Proofs.Tryz.prog S.fm S.glob S.sites (presOf P.tbl) S.em 119 (.fn P.f_exec_grouped) = true := by kernel_rfl
theorem k120 : chkE Go.Proofs.Tryz.prog S.fm S.glob S.sites (presOf P.tbl) S.em 120 (.fn P.f_exec_partial_1) = true := by kernel_rfl
theorem k121 : chkE Go.Proofs.Tryz.prog S.fm S.glob S.sites (presOf P.tbl) S.em 121 (.fn P.f_exec_final_1) = true := by kernel_rfl
theorem k136 : chkE Go.Proofs.Tryz.prog S.fm S.glob S.sites (presOf P.tbl) S.em 136 (.fn P.f_bref05_Value) = true := by kernel_rfl
theorem k137 : chkE Go.Proofs.Tryz.prog S.fm S.glob S.sites (presOf P.tbl) S.em 137 (.fn P.f_bref05_sign) = true := by kernel_rfl
theorem k138 : chkE Go.Proofs.Tryz.prog S.fm S.glob S.sites (presOf P.tbl) S.em 138 (.fn P.f_row_has) = true := by kernel_rfl
theorem k139 : chkE Go.Proofs.Tryz.prog S.fm S.glob S.sites (presOf P.tbl) S.em 139 (.fn P.f_row_asked_1) = true := by kernel_rfl
theorem k140 : chkE Go.Proofs.Tryz.prog S.fm S.glob S.sites (presOf P.tbl) S.em 140 (.fn P.f_row_order) = true := by kernel_rfl
theorem k141 : chkE Go.Proofs.Tryz.prog S.fm S.glob S.sites (presOf P.tbl) S.em 141 (.fn P.f_cmp_Or_int) = true := by kernel_rfl
theorem k142 : chkE Go.Proofs.Tryz.prog S.fm S.glob S.sites (presOf P.tbl) S.em 142 (.fn P.f_slices_CompareFunc_api_Row_api_Row_api_Value_api_Value) = true := by kernel_rfl
theorem k143 : chkE Go.Proofs.Tryz.prog S.fm S.glob S.sites (presOf P.tbl) S.em 143 (.fn P.f_row_values) = true := by kernel_rfl
theorem k144 : chkE Go.Proofs.Tryz.prog S.fm S.glob S.sites (presOf P.tbl) S.em 144 (.fn P.f_slices_Equal_api_Row_api_Value) = true := by kernel_rfl
theorem k145 : chkE Go.Proofs.Tryz.prog S.fm S.glob S.sites (presOf P.tbl) S.em 145 (.fn P.f_row_runs_1) = true := by kernel_rfl
theorem k146 : chkE Go.Proofs.Tryz.prog S.fm S.glob S.sites (presOf P.tbl) S.em 146 (.fn P.f_expr_firsts) = true := by kernel_rfl
theorem k147 : chkE Go.Proofs.Tryz.prog S.fm S.glob S.sites (presOf P.tbl) S.em 147 (.fn P.f_slices_MaxFunc_api_Value_api_Value) = true := by kernel_rfl
theorem k148 : chkE Go.Proofs.Tryz.prog S.fm S.glob S.sites (presOf P.tbl) S.em 148 (.fn P.f_denote_values) = true := by kernel_rfl
theorem k149 : chkE Go.Proofs.Tryz.prog S.fm S.glob S.sites (presOf P.tbl) S.em 149 (.fn P.f_value_Int) = true := by kernel_rfl
theorem k150 : chkE Go.Proofs.Tryz.prog S.fm S.glob S.sites (presOf P.tbl) S.em 150 (.fn P.f_arith_All) = true := by kernel_rfl
theorem k151 : chkE Go.Proofs.Tryz.prog S.fm S.glob S.sites (presOf P.tbl) S.em 151 (.fn P.f_slices_MinFunc_api_Value_api_Value) = true := by kernel_rfl
theorem k152 : chkE Go.Proofs.Tryz.prog S.fm S.glob S.sites (presOf P.tbl) S.em 152 (.fn P.f_slices_ContainsFunc_api_Value_api_Value) = true := by kernel_rfl
theorem k153 : chkE Go.Proofs.Tryz.prog S.fm S.glob S.sites (presOf P.tbl) S.em 153 (.fn P.f_denote_aggregate_1) = true := by kernel_rfl
theorem k154 : chkE Go.Proofs.Tryz.prog S.fm S.glob S.sites (presOf P.tbl) S.em 154 (.fn P.f_denote_args) = true := by kernel_rfl
theorem k160 : chkE Go.Proofs.Tryz.prog S.fm S.glob S.sites (presOf P.tbl) S.em 160 (.fn P.f_slices_IndexFunc_int_int) = true := by kernel_rfl
theorem k161 : chkE Go.Proofs.Tryz.prog S.fm S.glob S.sites (presOf P.tbl) S.em 161 (.fn P.f_exec_fit_1) = true := by kernel_rfl
theorem k162 : chkE Go.Proofs.Tryz.prog S.fm S.glob S.sites (presOf P.tbl) S.em 162 (.fn P.f_math_bits_Mul) = true := by kernel_rfl
theorem k163 : chkE Go.Proofs.Tryz.prog S.fm S.glob S.sites (presOf P.tbl) S.em 163 (.fn P.f_row_right) = true := by kernel_rfl
theorem k164 : chkE Go.Proofs.Tryz.prog S.fm S.glob S.sites (presOf P.tbl) S.em 164 (.fn P.f_slices_Grow_api_Row_api_Row) = true := by kernel_rfl
theorem k165 : chkE Go.Proofs.Tryz.prog S.fm S.glob S.sites (presOf P.tbl) S.em 165 (.fn P.f_sum_Sum32) = true := by kernel_rfl
theorem k166 : chkE Go.Proofs.Tryz.prog S.fm S.glob S.sites (presOf P.tbl) S.em 166 (.fn P.f_row_number) = true := by kernel_rfl
theorem k168 : chkE Go.Proofs.Tryz.prog S.fm S.glob S.sites (presOf P.tbl) S.em 168 (.fn P.f_slices_Concat_api_Row_api_Value) = true := by kernel_rfl
theorem k172 : chkE Go.Proofs.Tryz.prog S.fm S.glob S.sites (presOf P.tbl) S.em 172 (.fn P.f_expr_Eval) = true := by kernel_rfl
theorem k173 : chkE Go.Proofs.Tryz.prog S.fm S.glob S.sites (presOf P.tbl) S.em 173 (.fn P.f_row_Distinct) = true := by kernel_rfl
theorem k177 : chkE Go.Proofs.Tryz.prog S.fm S.glob S.sites (presOf P.tbl) S.em 177 (.fn P.f_prop_laid_scan) = true := by kernel_rfl
theorem k178 : chkE Go.Proofs.Tryz.prog S.fm S.glob S.sites (presOf P.tbl) S.em 178 (.fn P.f_prop_laid_input) = true := by kernel_rfl
theorem k179 : chkE Go.Proofs.Tryz.prog S.fm S.glob S.sites (presOf P.tbl) S.em 179 (.fn P.f_prop_laid_join) = true := by kernel_rfl
theorem k180 : chkE Go.Proofs.Tryz.prog S.fm S.glob S.sites (presOf P.tbl) S.em 180 (.fn P.f_prop_laid_filter) = true := by kernel_rfl
theorem k181 : chkE Go.Proofs.Tryz.prog S.fm S.glob S.sites (presOf P.tbl) S.em 181 (.fn P.f_prop_laid_group) = true := by kernel_rfl
theorem k182 : chkE Go.Proofs.Tryz.prog S.fm S.glob S.sites (presOf P.tbl) S.em 182 (.fn P.f_prop_laid_partial) = true := by kernel_rfl
theorem k183 : chkE Go.Proofs.Tryz.prog S.fm S.glob S.sites (presOf P.tbl) S.em 183 (.fn P.f_prop_laid_final) = true := by kernel_rfl
theorem k184 : chkE Go.Proofs.Tryz.prog S.fm S.glob S.sites (presOf P.tbl) S.em 184 (.fn P.f_prop_laid_project) = true := by kernel_rfl
theorem k185 : chkE Go.Proofs.Tryz.prog S.fm S.glob S.sites (presOf P.tbl) S.em 185 (.fn P.f_prop_laid_keeps) = true := by kernel_rfl
theorem k186 : chkE Go.Proofs.Tryz.prog S.fm S.glob S.sites (presOf P.tbl) S.em 186 (.fn P.f_prop_laid_union) = true := by kernel_rfl
theorem k187 : chkE Go.Proofs.Tryz.prog S.fm S.glob S.sites (presOf P.tbl) S.em 187 (.fn P.f_prop_laid_sort) = true := by kernel_rfl
theorem k188 : chkE Go.Proofs.Tryz.prog S.fm S.glob S.sites (presOf P.tbl) S.em 188 (.fn P.f_slices_Contains_int_int) = true := by kernel_rfl
theorem k189 : chkE Go.Proofs.Tryz.prog S.fm S.glob S.sites (presOf P.tbl) S.em 189 (.fn P.f_prop_blank) = true := by kernel_rfl
theorem k190 : chkE Go.Proofs.Tryz.prog S.fm S.glob S.sites (presOf P.tbl) S.em 190 (.fn P.f_prop_parts) = true := by kernel_rfl
theorem k191 : chkE Go.Proofs.Tryz.prog S.fm S.glob S.sites (presOf P.tbl) S.em 191 (.fn P.f_exec_sorted) = true := by kernel_rfl
theorem k192 : chkE Go.Proofs.Tryz.prog S.fm S.glob S.sites (presOf P.tbl) S.em 192 (.fn P.f_exec_holds) = true := by kernel_rfl
theorem k193 : chkE Go.Proofs.Tryz.prog S.fm S.glob S.sites (presOf P.tbl) S.em 193 (.round P.r_exec_run_join_0) = true := by kernel_rfl
theorem k194 : chkE Go.Proofs.Tryz.prog S.fm S.glob S.sites (presOf P.tbl) S.em 194 (.fn P.f_exec_pairs) = true := by kernel_rfl
theorem k195 : chkE Go.Proofs.Tryz.prog S.fm S.glob S.sites (presOf P.tbl) S.em 195 (.fn P.f_exec_run_group_1) = true := by kernel_rfl
theorem k196 : chkE Go.Proofs.Tryz.prog S.fm S.glob S.sites (presOf P.tbl) S.em 196 (.fn P.f_slices_IndexFunc_api_Ord_api_Ord) = true := by kernel_rfl
end Go.AM.K
