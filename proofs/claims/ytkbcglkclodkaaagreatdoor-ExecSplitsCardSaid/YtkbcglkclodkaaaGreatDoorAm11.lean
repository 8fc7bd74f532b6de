/- PRINTED by mktop.py: each function is the program's, as the kernel sees. -/
import Derived.Test.YtkbcglkclodkaaaGreatDoorAm09
import Derived.Test.YtkbcglkclodkaaaGreatDoorAm06
import Derived.Test.YtkbcglkclodkaaaGreatDoorProg
import Derived.KernelRfl
set_option linter.unusedVariables false
set_option linter.unusedSimpArgs false
namespace Go.AM.K
theorem k62 : ck 62 (.nilfn P.f_slices_Clone_api_Row_api_Row) = true := by kernel_rfl
theorem k63 : ck 63 (.round P.r_row_Groups_0) = true := by kernel_rfl
theorem k64 : ck 64 (.fn P.f_row_runs) = true := by kernel_rfl
theorem k65 : ck 65 (.fn P.f_row_Groups_2) = true := by kernel_rfl
theorem k66 : ck 66 (.fn P.f_row_Groups_1) = true := by kernel_rfl
theorem k68 : ck 68 (.fn P.f_row_copies) = true := by kernel_rfl
theorem k69 : ck 69 (.fn P.f_row_asked) = true := by kernel_rfl
theorem k70 : ck 70 (.fn P.f_denote_aggregate) = true := by kernel_rfl
theorem k71 : ck 71 (.fn P.f_expr_Check) = true := by kernel_rfl
theorem k74 : ck 74 (.fn P.f_slices_Repeat_api_Row_api_Row) = true := by kernel_rfl
theorem k75 : ck 75 (.fn P.f_exec_fit) = true := by kernel_rfl
theorem k76 : ck 76 (.fn P.f_exec_Goes_1) = true := by kernel_rfl
theorem k77 : ck 77 (.fn P.f_slices_ContainsFunc_int_int) = true := by kernel_rfl
theorem k78 : ck 78 (.fn P.f_slices_Concat_api_Row_api_Row) = true := by kernel_rfl
theorem k79 : ck 79 (.fn P.f_row_lists) = true := by kernel_rfl
theorem k80 : ck 80 (.fn P.f_row_sorted) = true := by kernel_rfl
theorem k81 : ck 81 (.fn P.f_row_hash) = true := by kernel_rfl
theorem k82 : ck 82 (.fn P.f_row_Take) = true := by kernel_rfl
theorem k95 : ck 95 (.nilfn P.f_slices_Clone_int_int) = true := by kernel_rfl
theorem k96 : ck 96 (.fn P.f_prop_laid_takes) = true := by kernel_rfl
theorem k97 : ck 97 (.fn P.f_prop_asks) = true := by kernel_rfl
theorem k98 : ck 98 (.fn P.f_exec_run_given) = true := by kernel_rfl
theorem k99 : ck 99 (.fn P.f_exec_run_join) = true := by kernel_rfl
theorem k100 : ck 100 (.fn P.f_exec_run_filter) = true := by kernel_rfl
theorem k101 : ck 101 (.fn P.f_exec_run_project) = true := by kernel_rfl
theorem k102 : ck 102 (.fn P.f_exec_run_group) = true := by kernel_rfl
theorem k103 : ck 103 (.fn P.f_exec_run_partial) = true := by kernel_rfl
theorem k104 : ck 104 (.fn P.f_exec_run_final) = true := by kernel_rfl
theorem k105 : ck 105 (.fn P.f_exec_run_distinct) = true := by kernel_rfl
theorem k106 : ck 106 (.fn P.f_exec_run_union) = true := by kernel_rfl
theorem k107 : ck 107 (.fn P.f_exec_run_sort) = true := by kernel_rfl
theorem k108 : ck 108 (.fn P.f_denote_has) = true := by kernel_rfl
theorem k109 : ck 109 (.fn P.f_denote_has_1) = true := by kernel_rfl
theorem k110 : ck 110 (.fn P.f_slices_ContainsFunc_api_Ord_api_Ord) = true := by kernel_rfl
theorem k111 : ck 111 (.fn P.f_denote_right_1) = true := by kernel_rfl
theorem k112 : ck 112 (.fn P.f_slices_IndexFunc_api_Row_api_Row) = true := by kernel_rfl
theorem k113 : ck 113 (.fn P.f_denote_by) = true := by kernel_rfl
theorem k114 : ck 114 (.nilfn P.f_slices_Clone_api_Row_api_Value) = true := by kernel_rfl
theorem k115 : ck 115 (.fn P.f_slices_EqualFunc_api_Row_api_Row_api_Row_api_Row) = true := by kernel_rfl
end Go.AM.K
