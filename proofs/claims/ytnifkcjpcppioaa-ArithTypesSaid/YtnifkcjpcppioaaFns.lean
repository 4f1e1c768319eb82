/- The data-level readings are those of the program. -/
import Derived.Test.YtnifkcjpcppioaaFnd
import Derived.Test.YtnifkcjpcppioaaChecked
set_option linter.unusedSimpArgs false
set_option linter.unusedVariables false
namespace Go.Proofs.Ytnifkcjpcppioaa
open Go.Nk

theorem m_norialaw07_ArithDoes : mFun Try.prog 3 3 d_norialaw07_ArithDoes = true := by kernel_rfl
theorem m_norialaw07_ArithTurns : mFun Try.prog 4 2 d_norialaw07_ArithTurns = true := by kernel_rfl
theorem m_norialaw07_ArithTypes : mFun Try.prog 5 3 d_norialaw07_ArithTypes = true := by kernel_rfl
theorem m_arith_Un : mFun Try.prog 6 2 d_arith_Un = true := by kernel_rfl
theorem m_noriaref07_Un : mFun Try.prog 7 2 d_noriaref07_Un = true := by kernel_rfl
theorem m_arith_Bin : mFun Try.prog 8 3 d_arith_Bin = true := by kernel_rfl
theorem m_noriaref07_Bin : mFun Try.prog 9 3 d_noriaref07_Bin = true := by kernel_rfl
theorem m_norialaw07_num : mFun Try.prog 10 1 d_norialaw07_num = true := by kernel_rfl
theorem m_norialaw07_live : mFun Try.prog 11 0 d_norialaw07_live = true := by kernel_rfl
theorem m_arith_UnTy : mFun Try.prog 12 2 d_arith_UnTy = true := by kernel_rfl
theorem m_noriaref07_UnTy : mFun Try.prog 13 2 d_noriaref07_UnTy = true := by kernel_rfl
theorem m_arith_BinTy : mFun Try.prog 14 3 d_arith_BinTy = true := by kernel_rfl
theorem m_noriaref07_BinTy : mFun Try.prog 15 3 d_noriaref07_BinTy = true := by kernel_rfl
theorem m_arith_Sign : mFun Try.prog 16 1 d_arith_Sign = true := by kernel_rfl
theorem m_noriaref07_Sign : mFun Try.prog 17 1 d_noriaref07_Sign = true := by kernel_rfl
theorem m_arith_truth : mFun Try.prog 18 1 d_arith_truth = true := by kernel_rfl
theorem m_noriaref07_truth : mFun Try.prog 19 1 d_noriaref07_truth = true := by kernel_rfl
theorem m_arith_group : mFun Try.prog 20 1 d_arith_group = true := by kernel_rfl
theorem m_arith_number : mFun Try.prog 21 3 d_arith_number = true := by kernel_rfl
theorem m_arith_holds : mFun Try.prog 22 3 d_arith_holds = true := by kernel_rfl
theorem m_noriaref07_number : mFun Try.prog 23 3 d_noriaref07_number = true := by kernel_rfl
theorem m_noriaref07_plain : mFun Try.prog 24 1 d_noriaref07_plain = true := by kernel_rfl
theorem m_arith_compare : mFun Try.prog 25 1 d_arith_compare = true := by kernel_rfl
theorem m_arith_divided : mFun Try.prog 26 2 d_arith_divided = true := by kernel_rfl
theorem m_noriaref07_quotient : mFun Try.prog 27 2 d_noriaref07_quotient = true := by kernel_rfl
theorem m_noriaref07_size : mFun Try.prog 28 1 d_noriaref07_size = true := by kernel_rfl
end Go.Proofs.Ytnifkcjpcppioaa
