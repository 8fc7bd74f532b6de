/- PRINTED by mktop.py: each function is the program's, as the kernel sees. -/
import Derived.Test.YtmkdaehnmhgjmaaGreatDoorAm09
import Derived.Test.YtmkdaehnmhgjmaaGreatDoorAm06
import Derived.Test.YtmkdaehnmhgjmaaGreatDoorProg
import Derived.KernelRfl
set_option linter.unusedVariables false
set_option linter.unusedSimpArgs false
namespace Go.AM.K
theorem k2 : chkE Go.Proofs.Tryz.prog S.fm S.glob S.sites (presOf P.tbl) S.em 2 (.fn P.f_exec_Run) = true := by kernel_rfl
theorem k8 : chkE Go.Proofs.Tryz.prog S.fm S.glob S.sites (presOf P.tbl) S.em 8 (.fn P.f_denote_Sort) = true := by kernel_rfl
theorem k12 : chkE Go.Proofs.Tryz.prog S.fm S.glob S.sites (presOf P.tbl) S.em 12 (.fn P.f_bref05_Same) = true := by kernel_rfl
theorem k19 : chkE Go.Proofs.Tryz.prog S.fm S.glob S.sites (presOf P.tbl) S.em 19 (.fn P.f_denote_Aggregate) = true := by kernel_rfl
theorem k20 : chkE Go.Proofs.Tryz.prog S.fm S.glob S.sites (presOf P.tbl) S.em 20 (.fn P.f_row_Groups) = true := by kernel_rfl
theorem k23 : chkE Go.Proofs.Tryz.prog S.fm S.glob S.sites (presOf P.tbl) S.em 23 (.fn P.f_bref13_SameInts) = true := by kernel_rfl
theorem k28 : chkE Go.Proofs.Tryz.prog S.fm S.glob S.sites (presOf P.tbl) S.em 28 (.fn P.f_row_Hash) = true := by kernel_rfl
theorem k29 : chkE Go.Proofs.Tryz.prog S.fm S.glob S.sites (presOf P.tbl) S.em 29 (.fn P.f_row_Sorted) = true := by kernel_rfl
theorem k30 : chkE Go.Proofs.Tryz.prog S.fm S.glob S.sites (presOf P.tbl) S.em 30 (.fn P.f_row_Merge) = true := by kernel_rfl
theorem k31 : chkE Go.Proofs.Tryz.prog S.fm S.glob S.sites (presOf P.tbl) S.em 31 (.fn P.f_exec_Goes) = true := by kernel_rfl
theorem k35 : chkE Go.Proofs.Tryz.prog S.fm S.glob S.sites (presOf P.tbl) S.em 35 (.fn P.f_exec_does) = true := by kernel_rfl
theorem k36 : chkE Go.Proofs.Tryz.prog S.fm S.glob S.sites (presOf P.tbl) S.em 36 (.fn P.f_exec_run_handed) = true := by kernel_rfl
theorem k37 : chkE Go.Proofs.Tryz.prog S.fm S.glob S.sites (presOf P.tbl) S.em 37 (.fn P.f_prop_Kinds) = true := by kernel_rfl
theorem k40 : chkE Go.Proofs.Tryz.prog S.fm S.glob S.sites (presOf P.tbl) S.em 40 (.fn P.f_denote_sorted) = true := by kernel_rfl
theorem k41 : chkE Go.Proofs.Tryz.prog S.fm S.glob S.sites (presOf P.tbl) S.em 41 (.fn P.f_denote_right) = true := by kernel_rfl
theorem k42 : chkE Go.Proofs.Tryz.prog S.fm S.glob S.sites (presOf P.tbl) S.em 42 (.fn P.f_slices_ContainsFunc_api_Row_api_Row) = true := by kernel_rfl
theorem k43 : chkE Go.Proofs.Tryz.prog S.fm S.glob S.sites (presOf P.tbl) S.em 43 (.fn P.f_denote_Sort_1) = true := by kernel_rfl
theorem k44 : chkE Go.Proofs.Tryz.prog S.fm S.glob S.sites (presOf P.tbl) S.em 44 (.fn P.f_row_Same) = true := by kernel_rfl
theorem k50 : chkE Go.Proofs.Tryz.prog S.fm S.glob S.sites (presOf P.tbl) S.em 50 (.fn P.f_exec_partial) = true := by kernel_rfl
theorem k52 : chkE Go.Proofs.Tryz.prog S.fm S.glob S.sites (presOf P.tbl) S.em 52 (.fn P.f_exec_final) = true := by kernel_rfl
theorem k60 : chkE Go.Proofs.Tryz.prog S.fm S.glob S.sites (presOf P.tbl) S.em 60 (.fn P.f_bref05_Compare) = true := by kernel_rfl
theorem k61 : chkE Go.Proofs.Tryz.prog S.fm S.glob S.sites (presOf P.tbl) S.em 61 (.fn P.f_row_take) = true := by kernel_rfl
theorem k62 : chkE Go.Proofs.Tryz.prog S.fm S.glob S.sites (presOf P.tbl) S.em 62 (.nilfn P.f_slices_Clone_api_Row_api_Row) = true := by kernel_rfl
theorem k63 : chkE Go.Proofs.Tryz.prog S.fm S.glob S.sites (presOf P.tbl) S.em 63 (.round P.r_row_Groups_0) = true := by kernel_rfl
theorem k64 : chkE Go.Proofs.Tryz.prog S.fm S.glob S.sites (presOf P.tbl) S.em 64 (.fn P.f_row_runs) = true := by kernel_rfl
theorem k65 : chkE Go.Proofs.Tryz.prog S.fm S.glob S.sites (presOf P.tbl) S.em 65 (.fn P.f_row_Groups_2) = true := by kernel_rfl
theorem k66 : chkE Go.Proofs.Tryz.prog S.fm S.glob S.sites (presOf P.tbl) S.em 66 (.fn P.f_row_Groups_1) = true := by kernel_rfl
theorem k68 : chkE Go.Proofs.Tryz.prog S.fm S.glob S.sites (presOf P.tbl) S.em 68 (.fn P.f_row_copies) = true := by kernel_rfl
theorem k69 : chkE Go.Proofs.Tryz.prog S.fm S.glob S.sites (presOf P.tbl) S.em 69 (.fn P.f_row_asked) = true := by kernel_rfl
theorem k70 : chkE Go.Proofs.Tryz.prog S.fm S.glob S.sites (presOf P.tbl) S.em 70 (.fn P.f_denote_aggregate) = true := by kernel_rfl
theorem k71 : chkE Go.Proofs.Tryz.prog S.fm S.glob S.sites (presOf P.tbl) S.em 71 (.fn P.f_expr_Check) = true := by kernel_rfl
theorem k74 : chkE Go.Proofs.Tryz.prog S.fm S.glob S.sites (presOf P.tbl) S.em 74 (.fn P.f_slices_Repeat_api_Row_api_Row) = true := by kernel_rfl
theorem k75 : chkE Go.Proofs.Tryz.prog S.fm S.glob S.sites (presOf P.tbl) S.em 75 (.fn P.f_exec_fit) = true := by kernel_rfl
theorem k76 : chkE Go.Proofs.Tryz.prog S.fm S.glob S.sites (presOf P.tbl) S.em 76 (.fn P.f_exec_Goes_1) = true := by kernel_rfl
theorem k77 : chkE Go.Proofs.Tryz.prog S.fm S.glob S.sites (presOf P.tbl) S.em 77 (.fn P.f_slices_ContainsFunc_int_int) = true := by kernel_rfl
theorem k78 : chkE Go.Proofs.Tryz.prog S.fm S.glob S.sites (presOf P.tbl) S.em 78 (.fn P.f_slices_Concat_api_Row_api_Row) = true := by kernel_rfl
theorem k79 : chkE Go.Proofs.Tryz.prog S.fm S.glob S.sites (presOf P.tbl) S.em 79 (.fn P.f_row_lists) = true := by kernel_rfl
theorem k80 : chkE Go.Proofs.Tryz.prog S.fm S.glob S.sites (presOf P.tbl) S.em 80 (.fn P.f_row_sorted) = true := by kernel_rfl
theorem k81 : chkE Go.Proofs.Tryz.prog S.fm S.glob S.sites (presOf P.tbl) S.em 81 (.fn P.f_row_hash) = true := by kernel_rfl
theorem k82 : chkE Go.Proofs.Tryz.prog S.fm S.glob S.sites (presOf P.tbl) S.em 82 (.fn P.f_row_Take) = true := by kernel_rfl
theorem k95 : chkE Go.Proofs.Tryz.prog S.fm S.glob S.sites (presOf P.tbl) S.em 95 (.nilfn P.f_slices_Clone_int_int) = true := by kernel_rfl
theorem k96 : chkE Go.Proofs.Tryz.prog S.fm S.glob S.sites (presOf P.tbl) S.em 96 (.fn P.f_prop_laid_takes) = true := by kernel_rfl
theorem k97 : chkE Go.Proofs.Tryz.prog S.fm S.glob S.sites (presOf P.tbl) S.em 97 (.fn P.f_prop_asks) = true := by kernel_rfl
theorem k98 : chkE Go.Proofs.Tryz.prog S.fm S.glob S.sites (presOf P.tbl) S.em 98 (.fn P.f_exec_run_given) = true := by kernel_rfl
theorem k99 : chkE Go.Proofs.Tryz.prog S.fm S.glob S.sites (presOf P.tbl) S.em 99 (.fn P.f_exec_run_join) = true := by kernel_rfl
theorem k100 : chkE Go.Proofs.Tryz.prog S.fm S.glob S.sites (presOf P.tbl) S.em 100 (.fn P.f_exec_run_filter) = true := by kernel_rfl
theorem k101 : chkE Go.Proofs.Tryz.prog S.fm S.glob S.sites (presOf P.tbl) S.em 101 (.fn P.f_exec_run_project) = true := by kernel_rfl
theorem k102 : chkE Go.Proofs.Tryz.prog S.fm S.glob S.sites (presOf P.tbl) S.em 102 (.fn P.f_exec_run_group) = true := by kernel_rfl
theorem k103 : chkE Go.Proofs.Tryz.prog S.fm S.glob S.sites (presOf P.tbl) S.em 103 (.fn P.f_exec_run_partial) = true := by kernel_rfl
theorem k104 : chkE Go.Proofs.Tryz.prog S.fm S.glob S.sites (presOf P.tbl) S.em 104 (.fn P.f_exec_run_final) = true := by kernel_rfl
theorem k105 : chkE Go.Proofs.Tryz.prog S.fm S.glob S.sites (presOf P.tbl) S.em 105 (.fn P.f_exec_run_distinct) = true := by kernel_rfl
theorem k106 : chkE Go.Proofs.Tryz.prog S.fm S.glob S.sites (presOf P.tbl) S.em 106 (.fn P.f_exec_run_union) = true := by kernel_rfl
theorem k107 : chkE Go.Proofs.Tryz.prog S.fm S.glob S.sites (presOf P.tbl) S.em 107 (.fn P.f_exec_run_sort) = true := by kernel_rfl
theorem k108 : chkE Go.Proofs.Tryz.prog S.fm S.glob S.sites (presOf P.tbl) S.em 108 (.fn P.f_denote_has) = true := by kernel_rfl
theorem k109 : chkE Go.Proofs.Tryz.prog S.fm S.glob S.sites (presOf P.tbl) S.em 109 (.fn P.f_denote_has_1) = true := by kernel_rfl
theorem k110 : chkE Go.Proofs.Tryz.prog S.fm S.glob S.sites (presOf P.tbl) S.em 110 (.fn P.f_slices_ContainsFunc_api_Ord_api_Ord) = true := by kernel_rfl
theorem k111 : chkE Go.Proofs.Tryz.prog S.fm S.glob S.sites (presOf P.tbl) S.em 111 (.fn P.f_denote_right_1) = true := by kernel_rfl
end Go.AM.K
