/- PRINTED by mktop.py: each function is the program's, as the kernel sees. -/
import Derived.Test.YtkbcglkclodkaaaGreatDoorAm08
import Derived.Test.YtkbcglkclodkaaaGreatDoorAm06
import Derived.Test.YtkbcglkclodkaaaGreatDoorProg
import Derived.KernelRfl
set_option linter.unusedVariables false
set_option linter.unusedSimpArgs false
namespace Go.AM.K
theorem k2 : chkE Go.Proofs.Tryz.prog S.fm S.glob S.sites (presOf P.tbl) S.em 2 (.fn P.f_exec_Run) = true := by kernel_rfl
theorem k3 : chkE Go.Proofs.Tryz.prog S.fm S.glob S.sites (presOf P.tbl) S.em 3 (.fn P.f_blaw20_num) = true := by kernel_rfl
theorem k5 : chkE Go.Proofs.Tryz.prog S.fm S.glob S.sites (presOf P.tbl) S.em 5 (.fn P.f_bref10_Made) = true := by kernel_rfl
theorem k6 : chkE Go.Proofs.Tryz.prog S.fm S.glob S.sites (presOf P.tbl) S.em 6 (.fn P.f_blaw20_wakes) = true := by kernel_rfl
theorem k7 : chkE Go.Proofs.Tryz.prog S.fm S.glob S.sites (presOf P.tbl) S.em 7 (.fn P.f_blaw20_alike) = true := by kernel_rfl
theorem k8 : chkE Go.Proofs.Tryz.prog S.fm S.glob S.sites (presOf P.tbl) S.em 8 (.fn P.f_denote_Sort) = true := by kernel_rfl
theorem k9 : chkE Go.Proofs.Tryz.prog S.fm S.glob S.sites (presOf P.tbl) S.em 9 (.fn P.f_blaw20_split) = true := by kernel_rfl
theorem k10 : chkE Go.Proofs.Tryz.prog S.fm S.glob S.sites (presOf P.tbl) S.em 10 (.fn P.f_blaw20_cut_api_Ord) = true := by kernel_rfl
theorem k11 : chkE Go.Proofs.Tryz.prog S.fm S.glob S.sites (presOf P.tbl) S.em 11 (.fn P.f_blaw20_rows) = true := by kernel_rfl
theorem k12 : chkE Go.Proofs.Tryz.prog S.fm S.glob S.sites (presOf P.tbl) S.em 12 (.fn P.f_bref05_Same) = true := by kernel_rfl
theorem k17 : chkE Go.Proofs.Tryz.prog S.fm S.glob S.sites (presOf P.tbl) S.em 17 (.fn P.f_exec_Partial) = true := by kernel_rfl
theorem k19 : chkE Go.Proofs.Tryz.prog S.fm S.glob S.sites (presOf P.tbl) S.em 19 (.fn P.f_denote_Aggregate) = true := by kernel_rfl
theorem k20 : chkE Go.Proofs.Tryz.prog S.fm S.glob S.sites (presOf P.tbl) S.em 20 (.fn P.f_row_Groups) = true := by kernel_rfl
theorem k29 : chkE Go.Proofs.Tryz.prog S.fm S.glob S.sites (presOf P.tbl) S.em 29 (.fn P.f_row_Sorted) = true := by kernel_rfl
theorem k34 : chkE Go.Proofs.Tryz.prog S.fm S.glob S.sites (presOf P.tbl) S.em 34 (.fn P.f_bref02_Int) = true := by kernel_rfl
theorem k35 : chkE Go.Proofs.Tryz.prog S.fm S.glob S.sites (presOf P.tbl) S.em 35 (.fn P.f_exec_does) = true := by kernel_rfl
theorem k36 : chkE Go.Proofs.Tryz.prog S.fm S.glob S.sites (presOf P.tbl) S.em 36 (.fn P.f_exec_run_handed) = true := by kernel_rfl
theorem k37 : chkE Go.Proofs.Tryz.prog S.fm S.glob S.sites (presOf P.tbl) S.em 37 (.fn P.f_prop_Kinds) = true := by kernel_rfl
theorem k38 : chkE Go.Proofs.Tryz.prog S.fm S.glob S.sites (presOf P.tbl) S.em 38 (.fn P.f_blaw20_cut_api_Value) = true := by kernel_rfl
theorem k39 : chkE Go.Proofs.Tryz.prog S.fm S.glob S.sites (presOf P.tbl) S.em 39 (.fn P.f_blaw20_cut_api_Row) = true := by kernel_rfl
theorem k40 : chkE Go.Proofs.Tryz.prog S.fm S.glob S.sites (presOf P.tbl) S.em 40 (.fn P.f_denote_sorted) = true := by kernel_rfl
theorem k41 : chkE Go.Proofs.Tryz.prog S.fm S.glob S.sites (presOf P.tbl) S.em 41 (.fn P.f_denote_right) = true := by kernel_rfl
theorem k42 : chkE Go.Proofs.Tryz.prog S.fm S.glob S.sites (presOf P.tbl) S.em 42 (.fn P.f_slices_ContainsFunc_api_Row_api_Row) = true := by kernel_rfl
theorem k43 : chkE Go.Proofs.Tryz.prog S.fm S.glob S.sites (presOf P.tbl) S.em 43 (.fn P.f_denote_Sort_1) = true := by kernel_rfl
theorem k44 : chkE Go.Proofs.Tryz.prog S.fm S.glob S.sites (presOf P.tbl) S.em 44 (.fn P.f_row_Same) = true := by kernel_rfl
theorem k50 : chkE Go.Proofs.Tryz.prog S.fm S.glob S.sites (presOf P.tbl) S.em 50 (.fn P.f_exec_partial) = true := by kernel_rfl
theorem k51 : chkE Go.Proofs.Tryz.prog S.fm S.glob S.sites (presOf P.tbl) S.em 51 (.fn P.f_exec_asked) = true := by kernel_rfl
theorem k52 : chkE Go.Proofs.Tryz.prog S.fm S.glob S.sites (presOf P.tbl) S.em 52 (.fn P.f_exec_final) = true := by kernel_rfl
theorem k60 : chkE Go.Proofs.Tryz.prog S.fm S.glob S.sites (presOf P.tbl) S.em 60 (.fn P.f_bref05_Compare) = true := by kernel_rfl
theorem k61 : chkE Go.Proofs.Tryz.prog S.fm S.glob S.sites (presOf P.tbl) S.em 61 (.fn P.f_row_take) = true := by kernel_rfl
theorem k62 : chkE Go.Proofs.Tryz.prog S.fm S.glob S.sites (presOf P.tbl) S.em 62 (.nilfn P.f_slices_Clone_api_Row_api_Row) = true := by kernel_rfl
theorem k63 : chkE Go.Proofs.Tryz.prog S.fm S.glob S.sites (presOf P.tbl) S.em 63 (.round P.r_row_Groups_0) = true := by kernel_rfl
theorem k64 : chkE Go.Proofs.Tryz.prog S.fm S.glob S.sites (presOf P.tbl) S.em 64 (.fn P.f_row_runs) = true := by kernel_rfl
theorem k65 : chkE Go.Proofs.Tryz.prog S.fm S.glob S.sites (presOf P.tbl) S.em 65 (.fn P.f_row_Groups_2) = true := by kernel_rfl
theorem k66 : chkE Go.Proofs.Tryz.prog S.fm S.glob S.sites (presOf P.tbl) S.em 66 (.fn P.f_row_Groups_1) = true := by kernel_rfl
theorem k68 : chkE Go.Proofs.Tryz.prog S.fm S.glob S.sites (presOf P.tbl) S.em 68 (.fn P.f_row_copies) = true := by kernel_rfl
theorem k69 : chkE Go.Proofs.Tryz.prog S.fm S.glob S.sites (presOf P.tbl) S.em 69 (.fn P.f_row_asked) = true := by kernel_rfl
theorem k70 : chkE Go.Proofs.Tryz.prog S.fm S.glob S.sites (presOf P.tbl) S.em 70 (.fn P.f_denote_aggregate) = true := by kernel_rfl
theorem k71 : chkE Go.Proofs.Tryz.prog S.fm S.glob S.sites (presOf P.tbl) S.em 71 (.fn P.f_expr_Check) = true := by kernel_rfl
theorem k75 : chkE Go.Proofs.Tryz.prog S.fm S.glob S.sites (presOf P.tbl) S.em 75 (.fn P.f_exec_fit) = true := by kernel_rfl
theorem k77 : chkE Go.Proofs.Tryz.prog S.fm S.glob S.sites (presOf P.tbl) S.em 77 (.fn P.f_slices_ContainsFunc_int_int) = true := by kernel_rfl
theorem k78 : chkE Go.Proofs.Tryz.prog S.fm S.glob S.sites (presOf P.tbl) S.em 78 (.fn P.f_slices_Concat_api_Row_api_Row) = true := by kernel_rfl
theorem k79 : chkE Go.Proofs.Tryz.prog S.fm S.glob S.sites (presOf P.tbl) S.em 79 (.fn P.f_row_lists) = true := by kernel_rfl
theorem k80 : chkE Go.Proofs.Tryz.prog S.fm S.glob S.sites (presOf P.tbl) S.em 80 (.fn P.f_row_sorted) = true := by kernel_rfl
theorem k95 : chkE Go.Proofs.Tryz.prog S.fm S.glob S.sites (presOf P.tbl) S.em 95 (.nilfn P.f_slices_Clone_int_int) = true := by kernel_rfl
theorem k96 : chkE Go.Proofs.Tryz.prog S.fm S.glob S.sites (presOf P.tbl) S.em 96 (.fn P.f_prop_laid_takes) = true := by kernel_rfl
theorem k97 : chkE Go.Proofs.Tryz.prog S.fm S.glob S.sites (presOf P.tbl) S.em 97 (.fn P.f_prop_asks) = true := by kernel_rfl
theorem k98 : chkE Go.Proofs.Tryz.prog S.fm S.glob S.sites (presOf P.tbl) S.em 98 (.fn P.f_exec_run_given) = true := by kernel_rfl
theorem k99 : chkE Go.Proofs.Tryz.prog S.fm S.glob S.sites (presOf P.tbl) S.em 99 (.fn P.f_exec_run_join) = true := by kernel_rfl
theorem k100 : chkE Go.Proofs.Tryz.prog S.fm S.glob S.sites (presOf P.tbl) S.em 100 (.fn P.f_exec_run_filter) = true := by kernel_rfl
theorem k101 : chkE Go.Proofs.Tryz.prog S.fm S.glob S.sites (presOf P.tbl) S.em 101 (.fn P.f_exec_run_project) = true := by kernel_rfl
theorem k102 : chkE Go.Proofs.Tryz.prog S.fm S.glob S.sites (presOf P.tbl) S.em 102 (.fn P.f_exec_run_group) = true := by kernel_rfl
theorem k103 : chkE Go.Proofs.Tryz.prog S.fm S.glob S.sites (presOf P.tbl) S.em 103 (.fn P.f_exec_run_partial) = true := by kernel_rfl
theorem k104 : chkE Go.Proofs.Tryz.prog S.fm S.glob S.sites (presOf P.tbl) S.em 104 (.fn P.f_exec_run_final) = true := by kernel_rfl
end Go.AM.K
