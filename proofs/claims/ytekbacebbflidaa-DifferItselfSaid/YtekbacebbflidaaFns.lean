/- The data-level readings are those of the program. -/
import Derived.Test.YtekbacebbflidaaFnd
import Derived.Test.YtekbacebbflidaaChecked
set_option linter.all false
namespace Go.Proofs.Ytekbacebbflidaa
open Go.Nk

theorem m_norialaw39_DifferTells : mFun Try.prog 3 2 d_norialaw39_DifferTells = true := by kernel_rfl
theorem m_norialaw39_DifferTexts : mFun Try.prog 4 1 d_norialaw39_DifferTexts = true := by kernel_rfl
theorem m_norialaw39_DifferItself : mFun Try.prog 5 2 d_norialaw39_DifferItself = true := by kernel_rfl
theorem m_noriaref33_Few : mFun Try.prog 6 1 d_noriaref33_Few = true := by kernel_rfl
theorem m_norialaw39_live : mFun Try.prog 7 0 d_norialaw39_live = true := by kernel_rfl
theorem m_differ_Diff : mFun Try.prog 8 2 d_differ_Diff = true := by kernel_rfl
theorem m_noriaref39_Diff : mFun Try.prog 9 2 d_noriaref39_Diff = true := by kernel_rfl
theorem m_norialaw39_same : mFun Try.prog 10 2 d_norialaw39_same = true := by kernel_rfl
theorem m_differ_Text : mFun Try.prog 11 1 d_differ_Text = true := by kernel_rfl
theorem m_noriaref39_Text : mFun Try.prog 12 1 d_noriaref39_Text = true := by kernel_rfl
theorem m_noriaref34_Form : mFun Try.prog 13 1 d_noriaref34_Form = true := by kernel_rfl
theorem m_norialaw39_has : mFun Try.prog 14 3 d_norialaw39_has = true := by kernel_rfl
theorem m_noriaref05_Small : mFun Try.prog 15 1 d_noriaref05_Small = true := by kernel_rfl
theorem m_differ_what : mFun Try.prog 16 3 d_differ_what = true := by kernel_rfl
theorem m_tree_Find : mFun Try.prog 17 2 d_tree_Find = true := by kernel_rfl
theorem m_noriaref39_What : mFun Try.prog 18 3 d_noriaref39_What = true := by kernel_rfl
theorem m_noriaref27_Find : mFun Try.prog 19 2 d_noriaref27_Find = true := by kernel_rfl
theorem m_differ_sign : mFun Try.prog 21 1 d_differ_sign = true := by kernel_rfl
theorem m_noriaref05_Enums : mFun Try.prog 23 1 d_noriaref05_Enums = true := by kernel_rfl
theorem m_noriaref27_Right : mFun Try.prog 24 2 d_noriaref27_Right = true := by kernel_rfl
theorem m_noriaref04_Low : mFun Try.prog 25 1 d_noriaref04_Low = true := by kernel_rfl
theorem m_noriaref05_Right : mFun Try.prog 26 2 d_noriaref05_Right = true := by kernel_rfl
theorem m_noriaref04_Once : mFun Try.prog 27 1 d_noriaref04_Once = true := by kernel_rfl
theorem m_noriaref29_Shape : mFun Try.prog 28 1 d_noriaref29_Shape = true := by kernel_rfl
theorem m_noriaref32_Shape : mFun Try.prog 29 1 d_noriaref32_Shape = true := by kernel_rfl
theorem m_mtype_Here : mFun Try.prog 30 3 d_mtype_Here = true := by kernel_rfl
theorem m_slices_IndexFunc_api_Slot_api_Slot : mFun Try.prog 31 2 d_slices_IndexFunc_api_Slot_api_Slot = true := by kernel_rfl
theorem m_tree_Find_1 : mFun Try.prog 32 2 d_tree_Find_1 = true := by kernel_rfl
theorem m_noriaref38_Here : mFun Try.prog 33 3 d_noriaref38_Here = true := by kernel_rfl
theorem m_noriaref04_High : mFun Try.prog 35 1 d_noriaref04_High = true := by kernel_rfl
theorem m_noriaref27_Cells : mFun Try.prog 36 1 d_noriaref27_Cells = true := by kernel_rfl
theorem m_noriaref04_Path : mFun Try.prog 37 1 d_noriaref04_Path = true := by kernel_rfl
theorem m_noriaref06_Right : mFun Try.prog 38 3 d_noriaref06_Right = true := by kernel_rfl
theorem m_noriaref04_name : mFun Try.prog 39 3 d_noriaref04_name = true := by kernel_rfl
theorem m_noriaref04_Word : mFun Try.prog 40 1 d_noriaref04_Word = true := by kernel_rfl
theorem m_noriaref29_Kind : mFun Try.prog 41 2 d_noriaref29_Kind = true := by kernel_rfl
theorem m_noriaref32_kinds : mFun Try.prog 42 2 d_noriaref32_kinds = true := by kernel_rfl
theorem m_ty_Right : mFun Try.prog 43 2 d_ty_Right = true := by kernel_rfl
theorem m_ty_Alike : mFun Try.prog 44 4 d_ty_Alike = true := by kernel_rfl
theorem m_ty_One : mFun Try.prog 45 1 d_ty_One = true := by kernel_rfl
theorem m_noriaref05_Alike : mFun Try.prog 46 4 d_noriaref05_Alike = true := by kernel_rfl
theorem m_noriaref05_One : mFun Try.prog 47 1 d_noriaref05_One = true := by kernel_rfl
theorem m_noriaref05_Cells : mFun Try.prog 49 1 d_noriaref05_Cells = true := by kernel_rfl
theorem m_noriaref04_cut : mFun Try.prog 50 2 d_noriaref04_cut = true := by kernel_rfl
theorem m_noriaref04_in : mFun Try.prog 51 3 d_noriaref04_in = true := by kernel_rfl
theorem m_noriaref06_One : mFun Try.prog 52 3 d_noriaref06_One = true := by kernel_rfl
theorem m_noriaref04_Words : mFun Try.prog 53 0 d_noriaref04_Words = true := by kernel_rfl
theorem m_noriaref06_Kind : mFun Try.prog 54 1 d_noriaref06_Kind = true := by kernel_rfl
theorem m_slices_Equal_string_string : mFun Try.prog 55 2 d_slices_Equal_string_string = true := by kernel_rfl
theorem m_noriaref01_Names : mFun Try.prog 56 2 d_noriaref01_Names = true := by kernel_rfl
end Go.Proofs.Ytekbacebbflidaa
