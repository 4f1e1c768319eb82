/- The data-level readings are those of the program. -/
import Derived.Test.YtmdgjgnmbdmdgaaFnd
import Derived.Test.YtmdgjgnmbdmdgaaChecked
set_option linter.all false
namespace Go.Proofs.Ytmdgjgnmbdmdgaa
open Go.Nk

instance : Inhabited Env := ⟨Env.none⟩

theorem m_norialaw02_CrcSums : mFun Try.prog 3 1 d_norialaw02_CrcSums = true := by kernel_rfl
theorem m_norialaw02_CrcOpens : mFun Try.prog 4 1 d_norialaw02_CrcOpens = true := by kernel_rfl
theorem m_norialaw02_CrcTells : mFun Try.prog 5 3 d_norialaw02_CrcTells = true := by kernel_rfl
theorem m_norialaw02_live : mFun Try.prog 6 0 d_norialaw02_live = true := by kernel_rfl
theorem m_crc_New : mFun Try.prog 7 0 d_crc_New = true := by kernel_rfl
theorem m_crc_Sum_Add : mFun Try.prog 8 2 d_crc_Sum_Add = true := by kernel_rfl
theorem m_crc_Sum_Value : mFun Try.prog 9 1 d_crc_Sum_Value = true := by kernel_rfl
theorem m_noriaref02_Of : mFun Try.prog 10 1 d_noriaref02_Of = true := by kernel_rfl
theorem m_crc_Of : mFun Try.prog 11 1 d_crc_Of = true := by kernel_rfl
theorem m_crc_Open : mFun Try.prog 12 1 d_crc_Open = true := by kernel_rfl
theorem m_noriaref02_Open : mFun Try.prog 13 1 d_noriaref02_Open = true := by kernel_rfl
theorem m_noriaref01_Same : mFun Try.prog 14 2 d_noriaref01_Same = true := by kernel_rfl
theorem m_crc_Seal : mFun Try.prog 15 1 d_crc_Seal = true := by kernel_rfl
theorem m_noriaref02_Seal : mFun Try.prog 16 1 d_noriaref02_Seal = true := by kernel_rfl
theorem m_crc_Sum_fill : mFun Try.prog 18 1 d_crc_Sum_fill = true := by kernel_rfl
theorem m_bytes_Equal : mFun Try.prog 19 2 d_bytes_Equal = true := by kernel_rfl
theorem m_crc_tail : mFun Try.prog 20 1 d_crc_tail = true := by kernel_rfl
theorem m_slices_Clone_byte_byte : mFun Try.prog 21 1 d_slices_Clone_byte_byte = true := by kernel_rfl
theorem m_noriaref02_tail : mFun Try.prog 22 1 d_noriaref02_tail = true := by kernel_rfl
theorem m_slices_Concat_byte_byte : mFun Try.prog 23 1 d_slices_Concat_byte_byte = true := by kernel_rfl
theorem m_slices_Grow_byte_byte : mFun Try.prog 26 2 d_slices_Grow_byte_byte = true := by kernel_rfl
end Go.Proofs.Ytmdgjgnmbdmdgaa
