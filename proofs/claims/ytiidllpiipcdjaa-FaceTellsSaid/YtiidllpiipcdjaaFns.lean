/- The data-level readings are those of the program. -/
import Derived.Test.YtiidllpiipcdjaaFnd
import Derived.Test.YtiidllpiipcdjaaChecked
set_option linter.all false
namespace Go.Proofs.Ytiidllpiipcdjaa
open Go.Nk

theorem m_norialaw36_FaceThirds : mFun Try.prog 3 1 d_norialaw36_FaceThirds = true := by kernel_rfl
theorem m_norialaw36_FaceSame : mFun Try.prog 4 2 d_norialaw36_FaceSame = true := by kernel_rfl
theorem m_norialaw36_FaceLays : mFun Try.prog 5 3 d_norialaw36_FaceLays = true := by kernel_rfl
theorem m_norialaw36_FaceTells : mFun Try.prog 6 2 d_norialaw36_FaceTells = true := by kernel_rfl
theorem m_noriaref33_Few : mFun Try.prog 7 1 d_noriaref33_Few = true := by kernel_rfl
theorem m_noriaref05_Enums : mFun Try.prog 8 1 d_noriaref05_Enums = true := by kernel_rfl
theorem m_norialaw36_live : mFun Try.prog 9 0 d_norialaw36_live = true := by kernel_rfl
theorem m_face_Same : mFun Try.prog 10 2 d_face_Same = true := by kernel_rfl
theorem m_noriaref36_Same : mFun Try.prog 11 2 d_noriaref36_Same = true := by kernel_rfl
theorem m_noriaref01_Vals : mFun Try.prog 12 2 d_noriaref01_Vals = true := by kernel_rfl
theorem m_face_Start : mFun Try.prog 13 1 d_face_Start = true := by kernel_rfl
theorem m_noriaref36_Start : mFun Try.prog 14 1 d_noriaref36_Start = true := by kernel_rfl
theorem m_norialaw36_few : mFun Try.prog 15 1 d_norialaw36_few = true := by kernel_rfl
theorem m_face_Lay : mFun Try.prog 16 3 d_face_Lay = true := by kernel_rfl
theorem m_noriaref36_Lay : mFun Try.prog 17 3 d_noriaref36_Lay = true := by kernel_rfl
theorem m_face_Ins : mFun Try.prog 18 2 d_face_Ins = true := by kernel_rfl
theorem m_noriaref36_Ins : mFun Try.prog 19 2 d_noriaref36_Ins = true := by kernel_rfl
theorem m_face_State : mFun Try.prog 20 2 d_face_State = true := by kernel_rfl
theorem m_face_Told : mFun Try.prog 21 2 d_face_Told = true := by kernel_rfl
theorem m_noriaref36_Told : mFun Try.prog 22 2 d_noriaref36_Told = true := by kernel_rfl
theorem m_noriaref36_State : mFun Try.prog 23 2 d_noriaref36_State = true := by kernel_rfl
theorem m_noriaref24_SameRows : mFun Try.prog 24 2 d_noriaref24_SameRows = true := by kernel_rfl
theorem m_noriaref05_Small : mFun Try.prog 25 1 d_noriaref05_Small = true := by kernel_rfl
theorem m_noriaref04_Low : mFun Try.prog 26 1 d_noriaref04_Low = true := by kernel_rfl
theorem m_noriaref04_High : mFun Try.prog 27 1 d_noriaref04_High = true := by kernel_rfl
theorem m_noriaref04_Once : mFun Try.prog 28 1 d_noriaref04_Once = true := by kernel_rfl
theorem m_face_Same_1 : mFun Try.prog 29 4 d_face_Same_1 = true := by kernel_rfl
theorem m_ty_Alike : mFun Try.prog 30 4 d_ty_Alike = true := by kernel_rfl
theorem m_slices_EqualFunc_api_Port_api_Port_api_Port_api_Port : mFun Try.prog 31 3 d_slices_EqualFunc_api_Port_api_Port_api_Port_api_Port = true := by kernel_rfl
theorem m_noriaref36_ports : mFun Try.prog 32 4 d_noriaref36_ports = true := by kernel_rfl
theorem m_tree_Cells : mFun Try.prog 33 1 d_tree_Cells = true := by kernel_rfl
theorem m_face_row : mFun Try.prog 34 2 d_face_row = true := by kernel_rfl
theorem m_gen_Shape : mFun Try.prog 35 1 d_gen_Shape = true := by kernel_rfl
theorem m_noriaref27_Cells : mFun Try.prog 36 1 d_noriaref27_Cells = true := by kernel_rfl
theorem m_noriaref32_Shape : mFun Try.prog 37 1 d_noriaref32_Shape = true := by kernel_rfl
theorem m_face_Ins_1 : mFun Try.prog 38 3 d_face_Ins_1 = true := by kernel_rfl
theorem m_val_Right : mFun Try.prog 39 3 d_val_Right = true := by kernel_rfl
theorem m_slices_EqualFunc_api_Port_int64_api_Port_int64 : mFun Try.prog 40 3 d_slices_EqualFunc_api_Port_int64_api_Port_int64 = true := by kernel_rfl
theorem m_noriaref06_Right : mFun Try.prog 41 3 d_noriaref06_Right = true := by kernel_rfl
theorem m_slices_Clone_int64_int64 : mFun Try.prog 42 1 d_slices_Clone_int64_int64 = true := by kernel_rfl
theorem m_ty_Cells : mFun Try.prog 43 1 d_ty_Cells = true := by kernel_rfl
theorem m_noriaref05_Cells : mFun Try.prog 44 1 d_noriaref05_Cells = true := by kernel_rfl
theorem m_noriaref04_name : mFun Try.prog 45 3 d_noriaref04_name = true := by kernel_rfl
theorem m_noriaref04_Word : mFun Try.prog 46 1 d_noriaref04_Word = true := by kernel_rfl
theorem m_ty_Right : mFun Try.prog 47 2 d_ty_Right = true := by kernel_rfl
theorem m_slices_Equal_string_string : mFun Try.prog 48 2 d_slices_Equal_string_string = true := by kernel_rfl
theorem m_noriaref05_Alike : mFun Try.prog 49 4 d_noriaref05_Alike = true := by kernel_rfl
theorem m_slices_Concat_int64_int64 : mFun Try.prog 50 1 d_slices_Concat_int64_int64 = true := by kernel_rfl
theorem m_gen_Shape_1 : mFun Try.prog 51 2 d_gen_Shape_1 = true := by kernel_rfl
theorem m_val_Kind : mFun Try.prog 52 1 d_val_Kind = true := by kernel_rfl
theorem m_noriaref32_kinds : mFun Try.prog 53 2 d_noriaref32_kinds = true := by kernel_rfl
theorem m_val_Right_1 : mFun Try.prog 54 3 d_val_Right_1 = true := by kernel_rfl
theorem m_val_One : mFun Try.prog 55 3 d_val_One = true := by kernel_rfl
theorem m_slices_ContainsFunc_int64_int64 : mFun Try.prog 56 2 d_slices_ContainsFunc_int64_int64 = true := by kernel_rfl
theorem m_noriaref05_Right : mFun Try.prog 57 2 d_noriaref05_Right = true := by kernel_rfl
theorem m_noriaref06_One : mFun Try.prog 58 3 d_noriaref06_One = true := by kernel_rfl
theorem m_noriaref04_in : mFun Try.prog 59 3 d_noriaref04_in = true := by kernel_rfl
theorem m_noriaref04_Words : mFun Try.prog 60 0 d_noriaref04_Words = true := by kernel_rfl
theorem m_noriaref01_Names : mFun Try.prog 61 2 d_noriaref01_Names = true := by kernel_rfl
theorem m_slices_Grow_int64_int64 : mFun Try.prog 62 2 d_slices_Grow_int64_int64 = true := by kernel_rfl
theorem m_noriaref06_Kind : mFun Try.prog 63 1 d_noriaref06_Kind = true := by kernel_rfl
theorem m_slices_IndexFunc_int64_int64 : mFun Try.prog 64 2 d_slices_IndexFunc_int64_int64 = true := by kernel_rfl
end Go.Proofs.Ytiidllpiipcdjaa
