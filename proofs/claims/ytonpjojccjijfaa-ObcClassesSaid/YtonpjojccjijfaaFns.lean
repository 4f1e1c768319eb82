/- The data-level readings are those of the program. -/
import Derived.Test.YtonpjojccjijfaaFnd
import Derived.Test.YtonpjojccjijfaaChecked
set_option linter.unusedSimpArgs false
set_option linter.unusedVariables false
namespace Go.Proofs.Ytonpjojccjijfaa
open Go.Nk

theorem m_norialaw25_ObcClasses : mFun Try.prog 3 1 d_norialaw25_ObcClasses = true := by kernel_rfl
theorem m_norialaw25_ObcBlocks : mFun Try.prog 4 1 d_norialaw25_ObcBlocks = true := by kernel_rfl
theorem m_norialaw25_live : mFun Try.prog 5 0 d_norialaw25_live = true := by kernel_rfl
theorem m_noriaref22_Few : mFun Try.prog 6 1 d_noriaref22_Few = true := by kernel_rfl
theorem m_obc_Classes : mFun Try.prog 7 1 d_obc_Classes = true := by kernel_rfl
theorem m_noriaref25_Classes : mFun Try.prog 8 1 d_noriaref25_Classes = true := by kernel_rfl
theorem m_noriaref25_Same : mFun Try.prog 9 2 d_noriaref25_Same = true := by kernel_rfl
theorem m_obc_Class : mFun Try.prog 10 1 d_obc_Class = true := by kernel_rfl
theorem m_noriaref25_Class : mFun Try.prog 11 1 d_noriaref25_Class = true := by kernel_rfl
theorem m_noriaref25_Blocks : mFun Try.prog 12 1 d_noriaref25_Blocks = true := by kernel_rfl
theorem m_noriaref25_SameBlocks : mFun Try.prog 13 2 d_noriaref25_SameBlocks = true := by kernel_rfl
theorem m_obc_Blocks : mFun Try.prog 14 1 d_obc_Blocks = true := by kernel_rfl
theorem m_noriaref25_Stmts : mFun Try.prog 15 2 d_noriaref25_Stmts = true := by kernel_rfl
theorem m_obc_Flat : mFun Try.prog 16 1 d_obc_Flat = true := by kernel_rfl
theorem m_noriaref25_Flat : mFun Try.prog 17 1 d_noriaref25_Flat = true := by kernel_rfl
theorem m_noriaref22_few : mFun Try.prog 18 1 d_noriaref22_few = true := by kernel_rfl
theorem m_noriaref21_SameFlow : mFun Try.prog 19 2 d_noriaref21_SameFlow = true := by kernel_rfl
theorem m_obc_kind : mFun Try.prog 20 1 d_obc_kind = true := by kernel_rfl
theorem m_noriaref17_Same : mFun Try.prog 21 2 d_noriaref17_Same = true := by kernel_rfl
theorem m_obc_groups_api_Stmt : mFun Try.prog 22 2 d_obc_groups_api_Stmt = true := by kernel_rfl
theorem m_obc_together : mFun Try.prog 23 2 d_obc_together = true := by kernel_rfl
theorem m_obc_bare : mFun Try.prog 24 2 d_obc_bare = true := by kernel_rfl
theorem m_noriaref21_SamePlain : mFun Try.prog 25 2 d_noriaref21_SamePlain = true := by kernel_rfl
theorem m_noriaref21_sameVars : mFun Try.prog 26 2 d_noriaref21_sameVars = true := by kernel_rfl
theorem m_slices_Equal_api_Cond_api_Cond : mFun Try.prog 27 2 d_slices_Equal_api_Cond_api_Cond = true := by kernel_rfl
theorem m_slices_Clone_api_Stmt_api_Stmt : mFun Try.prog 28 1 d_slices_Clone_api_Stmt_api_Stmt = true := by kernel_rfl
theorem m_noriaref01_Names : mFun Try.prog 29 2 d_noriaref01_Names = true := by kernel_rfl
theorem m_noriaref21_SameAtoms : mFun Try.prog 30 2 d_noriaref21_SameAtoms = true := by kernel_rfl
theorem m_noriaref01_Vals : mFun Try.prog 31 2 d_noriaref01_Vals = true := by kernel_rfl
end Go.Proofs.Ytonpjojccjijfaa
