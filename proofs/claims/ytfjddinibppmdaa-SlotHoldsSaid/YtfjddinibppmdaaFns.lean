/- The data-level readings are those of the program. -/
import Derived.Test.YtfjddinibppmdaaFnd
import Derived.Test.YtfjddinibppmdaaChecked
set_option linter.all false
namespace Go.Proofs.Ytfjddinibppmdaa
open Go.Nk

instance : Inhabited Env := ⟨Env.none⟩

theorem m_norialaw42_SlotHolds : mFun Try.prog 3 2 d_norialaw42_SlotHolds = true := by kernel_rfl
theorem m_norialaw42_few : mFun Try.prog 6 2 d_norialaw42_few = true := by kernel_rfl
theorem m_norialaw42_live : mFun Try.prog 7 0 d_norialaw42_live = true := by kernel_rfl
theorem m_slot_New : mFun Try.prog 8 0 d_slot_New = true := by kernel_rfl
theorem m_slot_Store_Load : mFun Try.prog 9 3 d_slot_Store_Load = true := by kernel_rfl
theorem m_slot_Store_Active : mFun Try.prog 10 1 d_slot_Store_Active = true := by kernel_rfl
theorem m_slot_Store_Stage : mFun Try.prog 11 2 d_slot_Store_Stage = true := by kernel_rfl
theorem m_norialaw42_of : mFun Try.prog 12 2 d_norialaw42_of = true := by kernel_rfl
theorem m_slot_Store_Write : mFun Try.prog 13 2 d_slot_Store_Write = true := by kernel_rfl
theorem m_slot_Store_Commit : mFun Try.prog 14 1 d_slot_Store_Commit = true := by kernel_rfl
theorem m_slot_Store_Drop : mFun Try.prog 15 1 d_slot_Store_Drop = true := by kernel_rfl
theorem m_noriaref33_Same : mFun Try.prog 16 2 d_noriaref33_Same = true := by kernel_rfl
theorem m_noriaref01_Vals : mFun Try.prog 17 2 d_noriaref01_Vals = true := by kernel_rfl
theorem m_slot_Store_Commits : mFun Try.prog 21 1 d_slot_Store_Commits = true := by kernel_rfl
theorem m_noriaref33_Few : mFun Try.prog 22 1 d_noriaref33_Few = true := by kernel_rfl
theorem m_slot_of : mFun Try.prog 24 2 d_slot_of = true := by kernel_rfl
theorem m_slot_Store_is : mFun Try.prog 25 1 d_slot_Store_is = true := by kernel_rfl
theorem m_slot_version_missing : mFun Try.prog 26 1 d_slot_version_missing = true := by kernel_rfl
theorem m_slot_Store_held : mFun Try.prog 27 1 d_slot_Store_held = true := by kernel_rfl
theorem m_slices_Clone_int64_int64 : mFun Try.prog 28 1 d_slices_Clone_int64_int64 = true := by kernel_rfl
theorem m_slot_Store_other : mFun Try.prog 29 1 d_slot_Store_other = true := by kernel_rfl
theorem m_sync_atomic_Int64_Store : mFun Try.prog 30 2 d_sync_atomic_Int64_Store = true := by kernel_rfl
theorem m_sync_atomic_Int64_Load : mFun Try.prog 31 1 d_sync_atomic_Int64_Load = true := by kernel_rfl
theorem m_sync_atomic_Int64_Add : mFun Try.prog 32 2 d_sync_atomic_Int64_Add = true := by kernel_rfl
theorem m_noriaref32_Same : mFun Try.prog 33 2 d_noriaref32_Same = true := by kernel_rfl
theorem m_noriaref05_Small : mFun Try.prog 40 1 d_noriaref05_Small = true := by kernel_rfl
theorem m_tree_Cells : mFun Try.prog 41 1 d_tree_Cells = true := by kernel_rfl
theorem m_noriaref05_Same : mFun Try.prog 45 2 d_noriaref05_Same = true := by kernel_rfl
theorem m_noriaref20_Same : mFun Try.prog 46 2 d_noriaref20_Same = true := by kernel_rfl
theorem m_noriaref27_Same : mFun Try.prog 47 2 d_noriaref27_Same = true := by kernel_rfl
theorem m_noriaref32_SameInts : mFun Try.prog 48 2 d_noriaref32_SameInts = true := by kernel_rfl
theorem m_noriaref28_Same : mFun Try.prog 49 2 d_noriaref28_Same = true := by kernel_rfl
theorem m_ty_Cells : mFun Try.prog 52 1 d_ty_Cells = true := by kernel_rfl
theorem m_noriaref01_Names : mFun Try.prog 53 2 d_noriaref01_Names = true := by kernel_rfl
end Go.Proofs.Ytfjddinibppmdaa
