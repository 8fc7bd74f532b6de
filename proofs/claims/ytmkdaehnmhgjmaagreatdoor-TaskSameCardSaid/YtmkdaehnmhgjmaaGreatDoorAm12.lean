/- PRINTED by mktop.py: each function is the program's, as the kernel sees. -/
import Derived.Test.YtmkdaehnmhgjmaaGreatDoorAm09
import Derived.Test.YtmkdaehnmhgjmaaGreatDoorAm06
import Derived.Test.YtmkdaehnmhgjmaaGreatDoorProg
import Derived.KernelRfl
set_option linter.unusedVariables false
set_option linter.unusedSimpArgs false
namespace Go.AM.K
theorem k197 : chkE Go.Proofs.Tryz.prog S.fm S.glob S.sites (presOf P.tbl) S.em 197 (.fn P.f_row_Check) = true := by kernel_rfl
theorem k198 : chkE Go.Proofs.Tryz.prog S.fm S.glob S.sites (presOf P.tbl) S.em 198 (.fn P.f_denote_by_1) = true := by kernel_rfl
theorem k199 : chkE Go.Proofs.Tryz.prog S.fm S.glob S.sites (presOf P.tbl) S.em 199 (.round P.r_exec_grouped_0) = true := by kernel_rfl
theorem k200 : chkE Go.Proofs.Tryz.prog S.fm S.glob S.sites (presOf P.tbl) S.em 200 (.fn P.f_exec_groups) = true := by kernel_rfl
theorem k201 : chkE Go.Proofs.Tryz.prog S.fm S.glob S.sites (presOf P.tbl) S.em 201 (.fn P.f_arith_Sum) = true := by kernel_rfl
theorem k202 : chkE Go.Proofs.Tryz.prog S.fm S.glob S.sites (presOf P.tbl) S.em 202 (.fn P.f_value_Null) = true := by kernel_rfl
theorem k203 : chkE Go.Proofs.Tryz.prog S.fm S.glob S.sites (presOf P.tbl) S.em 203 (.fn P.f_expr_Eval_1) = true := by kernel_rfl
theorem k204 : chkE Go.Proofs.Tryz.prog S.fm S.glob S.sites (presOf P.tbl) S.em 204 (.fn P.f_expr_over_api_Value) = true := by kernel_rfl
theorem k205 : chkE Go.Proofs.Tryz.prog S.fm S.glob S.sites (presOf P.tbl) S.em 205 (.fn P.f_expr_does) = true := by kernel_rfl
theorem k206 : chkE Go.Proofs.Tryz.prog S.fm S.glob S.sites (presOf P.tbl) S.em 206 (.fn P.f_value_Plain) = true := by kernel_rfl
theorem k207 : chkE Go.Proofs.Tryz.prog S.fm S.glob S.sites (presOf P.tbl) S.em 207 (.fn P.f_expr_Cols) = true := by kernel_rfl
theorem k208 : chkE Go.Proofs.Tryz.prog S.fm S.glob S.sites (presOf P.tbl) S.em 208 (.fn P.f_arith_wide) = true := by kernel_rfl
theorem k209 : chkE Go.Proofs.Tryz.prog S.fm S.glob S.sites (presOf P.tbl) S.em 209 (.fn P.f_arith_plus) = true := by kernel_rfl
theorem k210 : chkE Go.Proofs.Tryz.prog S.fm S.glob S.sites (presOf P.tbl) S.em 210 (.fn P.f_arith_are) = true := by kernel_rfl
theorem k211 : chkE Go.Proofs.Tryz.prog S.fm S.glob S.sites (presOf P.tbl) S.em 211 (.fn P.f_exec_summed) = true := by kernel_rfl
theorem k212 : chkE Go.Proofs.Tryz.prog S.fm S.glob S.sites (presOf P.tbl) S.em 212 (.fn P.f_arith_Join) = true := by kernel_rfl
theorem k213 : chkE Go.Proofs.Tryz.prog S.fm S.glob S.sites (presOf P.tbl) S.em 213 (.fn P.f_exec_final_1_1) = true := by kernel_rfl
theorem k214 : chkE Go.Proofs.Tryz.prog S.fm S.glob S.sites (presOf P.tbl) S.em 214 (.fn P.f_row_Compare) = true := by kernel_rfl
theorem k215 : chkE Go.Proofs.Tryz.prog S.fm S.glob S.sites (presOf P.tbl) S.em 215 (.fn P.f_arith_End) = true := by kernel_rfl
theorem k230 : chkE Go.Proofs.Tryz.prog S.fm S.glob S.sites (presOf P.tbl) S.em 230 (.fn P.f_row_has_1) = true := by kernel_rfl
theorem k242 : chkE Go.Proofs.Tryz.prog S.fm S.glob S.sites (presOf P.tbl) S.em 242 (.fn P.f_cmp_Compare_int) = true := by kernel_rfl
theorem k243 : chkE Go.Proofs.Tryz.prog S.fm S.glob S.sites (presOf P.tbl) S.em 243 (.fn P.f_cmp_Compare_int64) = true := by kernel_rfl
theorem k244 : chkE Go.Proofs.Tryz.prog S.fm S.glob S.sites (presOf P.tbl) S.em 244 (.fn P.f_cmp_Compare_uint64) = true := by kernel_rfl
theorem k245 : chkE Go.Proofs.Tryz.prog S.fm S.glob S.sites (presOf P.tbl) S.em 245 (.fn P.f_cmp_Compare_string) = true := by kernel_rfl
theorem k246 : chkE Go.Proofs.Tryz.prog S.fm S.glob S.sites (presOf P.tbl) S.em 246 (.fn P.f_expr_counts) = true := by kernel_rfl
theorem k247 : chkE Go.Proofs.Tryz.prog S.fm S.glob S.sites (presOf P.tbl) S.em 247 (.fn P.f_expr_parts) = true := by kernel_rfl
theorem k248 : chkE Go.Proofs.Tryz.prog S.fm S.glob S.sites (presOf P.tbl) S.em 248 (.fn P.f_slices_IndexFunc_api_Value_api_Value) = true := by kernel_rfl
theorem k253 : chkE Go.Proofs.Tryz.prog S.fm S.glob S.sites (presOf P.tbl) S.em 253 (.fn P.f_slices_EqualFunc_api_Row_int_api_Value_int) = true := by kernel_rfl
theorem k254 : chkE Go.Proofs.Tryz.prog S.fm S.glob S.sites (presOf P.tbl) S.em 254 (.fn P.f_exec_fit_1_1) = true := by kernel_rfl
theorem k255 : chkE Go.Proofs.Tryz.prog S.fm S.glob S.sites (presOf P.tbl) S.em 255 (.fn P.f_value_Check) = true := by kernel_rfl
theorem k256 : chkE Go.Proofs.Tryz.prog S.fm S.glob S.sites (presOf P.tbl) S.em 256 (.fn P.f_value_blank) = true := by kernel_rfl
theorem k257 : chkE Go.Proofs.Tryz.prog S.fm S.glob S.sites (presOf P.tbl) S.em 257 (.fn P.f_math_bits_Mul64) = true := by kernel_rfl
theorem k258 : chkE Go.Proofs.Tryz.prog S.fm S.glob S.sites (presOf P.tbl) S.em 258 (.fn P.f_math_bits_Mul32) = true := by kernel_rfl
theorem k259 : chkE Go.Proofs.Tryz.prog S.fm S.glob S.sites (presOf P.tbl) S.em 259 (.fn P.f_slices_ContainsFunc_api_Row_api_Value) = true := by kernel_rfl
theorem k260 : chkE Go.Proofs.Tryz.prog S.fm S.glob S.sites (presOf P.tbl) S.em 260 (.fn P.f_row_right_1) = true := by kernel_rfl
theorem k261 : chkE Go.Proofs.Tryz.prog S.fm S.glob S.sites (presOf P.tbl) S.em 261 (.fn P.f_sum_Sum32_1) = true := by kernel_rfl
theorem k262 : chkE Go.Proofs.Tryz.prog S.fm S.glob S.sites (presOf P.tbl) S.em 262 (.fn P.f_sum_steps) = true := by kernel_rfl
theorem k264 : chkE Go.Proofs.Tryz.prog S.fm S.glob S.sites (presOf P.tbl) S.em 264 (.fn P.f_value_True) = true := by kernel_rfl
theorem k265 : chkE Go.Proofs.Tryz.prog S.fm S.glob S.sites (presOf P.tbl) S.em 265 (.fn P.f_slices_Grow_api_Row_api_Value) = true := by kernel_rfl
theorem k266 : chkE Go.Proofs.Tryz.prog S.fm S.glob S.sites (presOf P.tbl) S.em 266 (.fn P.f_slices_CompactFunc_api_Row_api_Row) = true := by kernel_rfl
theorem k272 : chkE Go.Proofs.Tryz.prog S.fm S.glob S.sites (presOf P.tbl) S.em 272 (.fn P.f_prop_laid_scan_1) = true := by kernel_rfl
theorem k273 : chkE Go.Proofs.Tryz.prog S.fm S.glob S.sites (presOf P.tbl) S.em 273 (.fn P.f_prop_laid_input_1) = true := by kernel_rfl
theorem k274 : chkE Go.Proofs.Tryz.prog S.fm S.glob S.sites (presOf P.tbl) S.em 274 (.fn P.f_prop_truth) = true := by kernel_rfl
theorem k275 : chkE Go.Proofs.Tryz.prog S.fm S.glob S.sites (presOf P.tbl) S.em 275 (.fn P.f_slices_Concat_int_int) = true := by kernel_rfl
theorem k276 : chkE Go.Proofs.Tryz.prog S.fm S.glob S.sites (presOf P.tbl) S.em 276 (.fn P.f_expr_Kind) = true := by kernel_rfl
theorem k277 : chkE Go.Proofs.Tryz.prog S.fm S.glob S.sites (presOf P.tbl) S.em 277 (.fn P.f_prop_laid_sort_1) = true := by kernel_rfl
theorem k278 : chkE Go.Proofs.Tryz.prog S.fm S.glob S.sites (presOf P.tbl) S.em 278 (.fn P.f_slices_Index_int_int) = true := by kernel_rfl
theorem k279 : chkE Go.Proofs.Tryz.prog S.fm S.glob S.sites (presOf P.tbl) S.em 279 (.fn P.f_exec_pairs_1) = true := by kernel_rfl
theorem k280 : chkE Go.Proofs.Tryz.prog S.fm S.glob S.sites (presOf P.tbl) S.em 280 (.fn P.f_exec_groups_1) = true := by kernel_rfl
theorem k281 : chkE Go.Proofs.Tryz.prog S.fm S.glob S.sites (presOf P.tbl) S.em 281 (.fn P.f_slices_Compact_int_int) = true := by kernel_rfl
theorem k283 : chkE Go.Proofs.Tryz.prog S.fm S.glob S.sites (presOf P.tbl) S.em 283 (.fn P.f_expr_first) = true := by kernel_rfl
theorem k284 : chkE Go.Proofs.Tryz.prog S.fm S.glob S.sites (presOf P.tbl) S.em 284 (.fn P.f_arith_Neg) = true := by kernel_rfl
theorem k285 : chkE Go.Proofs.Tryz.prog S.fm S.glob S.sites (presOf P.tbl) S.em 285 (.fn P.f_value_Not) = true := by kernel_rfl
theorem k286 : chkE Go.Proofs.Tryz.prog S.fm S.glob S.sites (presOf P.tbl) S.em 286 (.fn P.f_expr_null) = true := by kernel_rfl
theorem k287 : chkE Go.Proofs.Tryz.prog S.fm S.glob S.sites (presOf P.tbl) S.em 287 (.fn P.f_arith_Add) = true := by kernel_rfl
theorem k288 : chkE Go.Proofs.Tryz.prog S.fm S.glob S.sites (presOf P.tbl) S.em 288 (.fn P.f_arith_Sub) = true := by kernel_rfl
theorem k289 : chkE Go.Proofs.Tryz.prog S.fm S.glob S.sites (presOf P.tbl) S.em 289 (.fn P.f_arith_Mul) = true := by kernel_rfl
end Go.AM.K
