/- PRINTED by mktop.py: each function is the program's, as the kernel sees. -/
import Derived.Test.YtkbcglkclodkaaaGreatDoorAm09
import Derived.Test.YtkbcglkclodkaaaGreatDoorAm06
import Derived.Test.YtkbcglkclodkaaaGreatDoorProg
import Derived.KernelRfl
set_option linter.unusedVariables false
set_option linter.unusedSimpArgs false
namespace Go.AM.K
theorem k2 : ck 2 (.fn P.f_exec_Run) = true := by kernel_rfl
theorem k3 : ck 3 (.fn P.f_blaw20_num) = true := by kernel_rfl
theorem k5 : ck 5 (.fn P.f_bref10_Made) = true := by kernel_rfl
theorem k6 : ck 6 (.fn P.f_blaw20_wakes) = true := by kernel_rfl
theorem k7 : ck 7 (.fn P.f_blaw20_alike) = true := by kernel_rfl
theorem k8 : ck 8 (.fn P.f_denote_Sort) = true := by kernel_rfl
theorem k10 : ck 10 (.fn P.f_blaw20_cut_api_Ord) = true := by kernel_rfl
theorem k11 : ck 11 (.fn P.f_blaw20_rows) = true := by kernel_rfl
theorem k12 : ck 12 (.fn P.f_bref05_Same) = true := by kernel_rfl
theorem k17 : ck 17 (.fn P.f_exec_Partial) = true := by kernel_rfl
theorem k18 : ck 18 (.fn P.f_blaw20_nodes) = true := by kernel_rfl
theorem k19 : ck 19 (.fn P.f_denote_Aggregate) = true := by kernel_rfl
theorem k20 : ck 20 (.fn P.f_row_Groups) = true := by kernel_rfl
theorem k26 : ck 26 (.fn P.f_blaw20_frag) = true := by kernel_rfl
theorem k28 : ck 28 (.fn P.f_row_Hash) = true := by kernel_rfl
theorem k29 : ck 29 (.fn P.f_row_Sorted) = true := by kernel_rfl
theorem k30 : ck 30 (.fn P.f_row_Merge) = true := by kernel_rfl
theorem k31 : ck 31 (.fn P.f_exec_Goes) = true := by kernel_rfl
theorem k34 : ck 34 (.fn P.f_bref02_Int) = true := by kernel_rfl
theorem k35 : ck 35 (.fn P.f_exec_does) = true := by kernel_rfl
theorem k36 : ck 36 (.fn P.f_exec_run_handed) = true := by kernel_rfl
theorem k37 : ck 37 (.fn P.f_prop_Kinds) = true := by kernel_rfl
theorem k38 : ck 38 (.fn P.f_blaw20_cut_api_Value) = true := by kernel_rfl
theorem k39 : ck 39 (.fn P.f_blaw20_cut_api_Row) = true := by kernel_rfl
theorem k40 : ck 40 (.fn P.f_denote_sorted) = true := by kernel_rfl
theorem k41 : ck 41 (.fn P.f_denote_right) = true := by kernel_rfl
theorem k42 : ck 42 (.fn P.f_slices_ContainsFunc_api_Row_api_Row) = true := by kernel_rfl
theorem k43 : ck 43 (.fn P.f_denote_Sort_1) = true := by kernel_rfl
theorem k44 : ck 44 (.fn P.f_row_Same) = true := by kernel_rfl
theorem k45 : ck 45 (.fn P.f_blaw20_short) = true := by kernel_rfl
theorem k46 : ck 46 (.fn P.f_blaw20_cut_int) = true := by kernel_rfl
theorem k47 : ck 47 (.fn P.f_blaw20_cut_api_Agg) = true := by kernel_rfl
theorem k48 : ck 48 (.fn P.f_blaw20_cut_api_Expr) = true := by kernel_rfl
theorem k49 : ck 49 (.fn P.f_blaw20_cut_api_LNode) = true := by kernel_rfl
theorem k50 : ck 50 (.fn P.f_exec_partial) = true := by kernel_rfl
theorem k51 : ck 51 (.fn P.f_exec_asked) = true := by kernel_rfl
theorem k52 : ck 52 (.fn P.f_exec_final) = true := by kernel_rfl
theorem k60 : ck 60 (.fn P.f_bref05_Compare) = true := by kernel_rfl
theorem k61 : ck 61 (.fn P.f_row_take) = true := by kernel_rfl
end Go.AM.K
