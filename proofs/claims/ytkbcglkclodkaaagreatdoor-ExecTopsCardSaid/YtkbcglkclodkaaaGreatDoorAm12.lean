/- PRINTED by mktop.py: each function is the program's, as the kernel sees. -/
import Derived.Test.YtkbcglkclodkaaaGreatDoorAm08
import Derived.Test.YtkbcglkclodkaaaGreatDoorAm06
import Derived.Test.YtkbcglkclodkaaaGreatDoorProg
import Derived.KernelRfl
set_option linter.unusedVariables false
set_option linter.unusedSimpArgs false
namespace Go.AM.K
theorem k281 : chkE Go.Proofs.Tryz.prog S.fm S.glob S.sites (presOf P.tbl) S.em 281 (.fn P.f_slices_Compact_int_int) = true := by kernel_rfl
theorem k283 : chkE Go.Proofs.Tryz.prog S.fm S.glob S.sites (presOf P.tbl) S.em 283 (.fn P.f_expr_first) = true := by kernel_rfl
theorem k284 : chkE Go.Proofs.Tryz.prog S.fm S.glob S.sites (presOf P.tbl) S.em 284 (.fn P.f_arith_Neg) = true := by kernel_rfl
theorem k285 : chkE Go.Proofs.Tryz.prog S.fm S.glob S.sites (presOf P.tbl) S.em 285 (.fn P.f_value_Not) = true := by kernel_rfl
theorem k286 : chkE Go.Proofs.Tryz.prog S.fm S.glob S.sites (presOf P.tbl) S.em 286 (.fn P.f_expr_null) = true := by kernel_rfl
theorem k287 : chkE Go.Proofs.Tryz.prog S.fm S.glob S.sites (presOf P.tbl) S.em 287 (.fn P.f_arith_Add) = true := by kernel_rfl
theorem k288 : chkE Go.Proofs.Tryz.prog S.fm S.glob S.sites (presOf P.tbl) S.em 288 (.fn P.f_arith_Sub) = true := by kernel_rfl
theorem k289 : chkE Go.Proofs.Tryz.prog S.fm S.glob S.sites (presOf P.tbl) S.em 289 (.fn P.f_arith_Mul) = true := by kernel_rfl
theorem k290 : chkE Go.Proofs.Tryz.prog S.fm S.glob S.sites (presOf P.tbl) S.em 290 (.fn P.f_arith_Div) = true := by kernel_rfl
theorem k291 : chkE Go.Proofs.Tryz.prog S.fm S.glob S.sites (presOf P.tbl) S.em 291 (.fn P.f_value_Equal) = true := by kernel_rfl
theorem k292 : chkE Go.Proofs.Tryz.prog S.fm S.glob S.sites (presOf P.tbl) S.em 292 (.fn P.f_expr_not) = true := by kernel_rfl
theorem k293 : chkE Go.Proofs.Tryz.prog S.fm S.glob S.sites (presOf P.tbl) S.em 293 (.fn P.f_value_Less) = true := by kernel_rfl
theorem k294 : chkE Go.Proofs.Tryz.prog S.fm S.glob S.sites (presOf P.tbl) S.em 294 (.fn P.f_value_And) = true := by kernel_rfl
theorem k295 : chkE Go.Proofs.Tryz.prog S.fm S.glob S.sites (presOf P.tbl) S.em 295 (.fn P.f_value_Or) = true := by kernel_rfl
theorem k296 : chkE Go.Proofs.Tryz.prog S.fm S.glob S.sites (presOf P.tbl) S.em 296 (.fn P.f_expr_turned) = true := by kernel_rfl
theorem k297 : chkE Go.Proofs.Tryz.prog S.fm S.glob S.sites (presOf P.tbl) S.em 297 (.fn P.f_expr_over_api_Value_1) = true := by kernel_rfl
theorem k316 : chkE Go.Proofs.Tryz.prog S.fm S.glob S.sites (presOf P.tbl) S.em 316 (.fn P.f_cmp_isNaN_int) = true := by kernel_rfl
theorem k317 : chkE Go.Proofs.Tryz.prog S.fm S.glob S.sites (presOf P.tbl) S.em 317 (.fn P.f_cmp_isNaN_int64) = true := by kernel_rfl
theorem k318 : chkE Go.Proofs.Tryz.prog S.fm S.glob S.sites (presOf P.tbl) S.em 318 (.fn P.f_cmp_isNaN_uint64) = true := by kernel_rfl
theorem k319 : chkE Go.Proofs.Tryz.prog S.fm S.glob S.sites (presOf P.tbl) S.em 319 (.fn P.f_cmp_isNaN_string) = true := by kernel_rfl
theorem k320 : chkE Go.Proofs.Tryz.prog S.fm S.glob S.sites (presOf P.tbl) S.em 320 (.fn P.f_slices_IndexFunc_api_Row_api_Value) = true := by kernel_rfl
theorem k321 : chkE Go.Proofs.Tryz.prog S.fm S.glob S.sites (presOf P.tbl) S.em 321 (.fn P.f_value_Bool) = true := by kernel_rfl
theorem k339 : chkE Go.Proofs.Tryz.prog S.fm S.glob S.sites (presOf P.tbl) S.em 339 (.fn P.f_slices_Grow_int_int) = true := by kernel_rfl
theorem k340 : chkE Go.Proofs.Tryz.prog S.fm S.glob S.sites (presOf P.tbl) S.em 340 (.fn P.f_expr_Kind_1) = true := by kernel_rfl
theorem k341 : chkE Go.Proofs.Tryz.prog S.fm S.glob S.sites (presOf P.tbl) S.em 341 (.fn P.f_expr_over_int) = true := by kernel_rfl
theorem k342 : chkE Go.Proofs.Tryz.prog S.fm S.glob S.sites (presOf P.tbl) S.em 342 (.fn P.f_expr_turned_1) = true := by kernel_rfl
theorem k343 : chkE Go.Proofs.Tryz.prog S.fm S.glob S.sites (presOf P.tbl) S.em 343 (.fn P.f_value_held) = true := by kernel_rfl
theorem k344 : chkE Go.Proofs.Tryz.prog S.fm S.glob S.sites (presOf P.tbl) S.em 344 (.fn P.f_value_Less_1) = true := by kernel_rfl
theorem k345 : chkE Go.Proofs.Tryz.prog S.fm S.glob S.sites (presOf P.tbl) S.em 345 (.fn P.f_expr_first_1) = true := by kernel_rfl
theorem k346 : chkE Go.Proofs.Tryz.prog S.fm S.glob S.sites (presOf P.tbl) S.em 346 (.fn P.f_value_logic) = true := by kernel_rfl
theorem k347 : chkE Go.Proofs.Tryz.prog S.fm S.glob S.sites (presOf P.tbl) S.em 347 (.fn P.f_value_Not_1) = true := by kernel_rfl
theorem k348 : chkE Go.Proofs.Tryz.prog S.fm S.glob S.sites (presOf P.tbl) S.em 348 (.fn P.f_expr_null_1) = true := by kernel_rfl
theorem k349 : chkE Go.Proofs.Tryz.prog S.fm S.glob S.sites (presOf P.tbl) S.em 349 (.fn P.f_arith_do) = true := by kernel_rfl
theorem k350 : chkE Go.Proofs.Tryz.prog S.fm S.glob S.sites (presOf P.tbl) S.em 350 (.fn P.f_arith_Add_1) = true := by kernel_rfl
theorem k351 : chkE Go.Proofs.Tryz.prog S.fm S.glob S.sites (presOf P.tbl) S.em 351 (.fn P.f_arith_Sub_1) = true := by kernel_rfl
theorem k352 : chkE Go.Proofs.Tryz.prog S.fm S.glob S.sites (presOf P.tbl) S.em 352 (.fn P.f_arith_Mul_1) = true := by kernel_rfl
theorem k353 : chkE Go.Proofs.Tryz.prog S.fm S.glob S.sites (presOf P.tbl) S.em 353 (.fn P.f_arith_Div_1) = true := by kernel_rfl
theorem k354 : chkE Go.Proofs.Tryz.prog S.fm S.glob S.sites (presOf P.tbl) S.em 354 (.fn P.f_value_Equal_1) = true := by kernel_rfl
theorem k355 : chkE Go.Proofs.Tryz.prog S.fm S.glob S.sites (presOf P.tbl) S.em 355 (.fn P.f_expr_not_1) = true := by kernel_rfl
theorem k356 : chkE Go.Proofs.Tryz.prog S.fm S.glob S.sites (presOf P.tbl) S.em 356 (.fn P.f_value_And_1) = true := by kernel_rfl
theorem k357 : chkE Go.Proofs.Tryz.prog S.fm S.glob S.sites (presOf P.tbl) S.em 357 (.fn P.f_value_Or_1) = true := by kernel_rfl
theorem k358 : chkE Go.Proofs.Tryz.prog S.fm S.glob S.sites (presOf P.tbl) S.em 358 (.nilfn P.f_slices_Clone_api_Value_api_Value) = true := by kernel_rfl
theorem k374 : chkE Go.Proofs.Tryz.prog S.fm S.glob S.sites (presOf P.tbl) S.em 374 (.fn P.f_expr_over_int_1) = true := by kernel_rfl
theorem k375 : chkE Go.Proofs.Tryz.prog S.fm S.glob S.sites (presOf P.tbl) S.em 375 (.fn P.f_expr_arithmetic) = true := by kernel_rfl
theorem k386 : chkE Go.Proofs.Tryz.prog S.fm S.glob S.sites (presOf P.tbl) S.em 386 (.fn P.f_value_Compare) = true := by kernel_rfl
theorem k387 : chkE Go.Proofs.Tryz.prog S.fm S.glob S.sites (presOf P.tbl) S.em 387 (.fn P.f_value_right) = true := by kernel_rfl
theorem k388 : chkE Go.Proofs.Tryz.prog S.fm S.glob S.sites (presOf P.tbl) S.em 388 (.fn P.f_value_truth) = true := by kernel_rfl
theorem k389 : chkE Go.Proofs.Tryz.prog S.fm S.glob S.sites (presOf P.tbl) S.em 389 (.fn P.f_arith_signed) = true := by kernel_rfl
theorem k390 : chkE Go.Proofs.Tryz.prog S.fm S.glob S.sites (presOf P.tbl) S.em 390 (.fn P.f_arith_size) = true := by kernel_rfl
theorem k398 : chkE Go.Proofs.Tryz.prog S.fm S.glob S.sites (presOf P.tbl) S.em 398 (.fn P.f_strings_Compare) = true := by kernel_rfl
theorem k401 : chkE Go.Proofs.Tryz.prog S.fm S.glob S.sites (presOf P.tbl) S.em 401 (.fn P.f_internal_bytealg_CompareString) = true := by kernel_rfl
theorem k404 : chkE Go.Proofs.Tryz.prog S.fm S.glob S.sites (presOf P.tbl) S.em 404 (.fn P.f_blaw20_ExecTops) = true := by kernel_rfl
end Go.AM.K
