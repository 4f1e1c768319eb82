/- The data-level readings are those of the program. -/
import Derived.Test.YtkefjfaeaalmbaaDoorFnd
import Derived.Test.YtkefjfaeaalmbaaDoorChecked
set_option linter.all false
namespace Go.Proofs.YtkefjfaeaalmbaaDoor
open Go.Nk

theorem m_norialaw05_TyAlike : mFun Tryd.prog 3 3 d_norialaw05_TyAlike = true := by kernel_rfl
theorem m_norialaw05_TyTells : mFun Tryd.prog 4 3 d_norialaw05_TyTells = true := by kernel_rfl
theorem m_norialaw05_TyEnums : mFun Tryd.prog 5 1 d_norialaw05_TyEnums = true := by kernel_rfl
theorem m_norialaw05_TyOrders : mFun Tryd.prog 6 3 d_norialaw05_TyOrders = true := by kernel_rfl
theorem m_noriaref05_Small : mFun Tryd.prog 7 1 d_noriaref05_Small = true := by kernel_rfl
theorem m_norialaw05_live : mFun Tryd.prog 8 0 d_norialaw05_live = true := by kernel_rfl
theorem m_ty_Alike : mFun Tryd.prog 9 4 d_ty_Alike = true := by kernel_rfl
theorem m_noriaref05_Alike : mFun Tryd.prog 10 4 d_noriaref05_Alike = true := by kernel_rfl
theorem m_ty_Ctor : mFun Tryd.prog 11 2 d_ty_Ctor = true := by kernel_rfl
theorem m_noriaref05_Ctor : mFun Tryd.prog 12 2 d_noriaref05_Ctor = true := by kernel_rfl
theorem m_ty_Right : mFun Tryd.prog 13 2 d_ty_Right = true := by kernel_rfl
theorem m_noriaref05_Right : mFun Tryd.prog 14 2 d_noriaref05_Right = true := by kernel_rfl
theorem m_ty_Cells : mFun Tryd.prog 15 1 d_ty_Cells = true := by kernel_rfl
theorem m_noriaref05_Cells : mFun Tryd.prog 16 1 d_noriaref05_Cells = true := by kernel_rfl
theorem m_ty_One : mFun Tryd.prog 17 1 d_ty_One = true := by kernel_rfl
theorem m_noriaref05_One : mFun Tryd.prog 18 1 d_noriaref05_One = true := by kernel_rfl
theorem m_ty_Text : mFun Tryd.prog 19 2 d_ty_Text = true := by kernel_rfl
theorem m_noriaref05_Text : mFun Tryd.prog 20 2 d_noriaref05_Text = true := by kernel_rfl
theorem m_norialaw05_num : mFun Tryd.prog 21 1 d_norialaw05_num = true := by kernel_rfl
theorem m_ty_Enums : mFun Tryd.prog 22 1 d_ty_Enums = true := by kernel_rfl
theorem m_noriaref05_Enums : mFun Tryd.prog 23 1 d_noriaref05_Enums = true := by kernel_rfl
theorem m_slices_Equal_string_string : mFun Tryd.prog 24 2 d_slices_Equal_string_string = true := by kernel_rfl
theorem m_noriaref01_Names : mFun Tryd.prog 25 2 d_noriaref01_Names = true := by kernel_rfl
theorem m_ty_ctors : mFun Tryd.prog 26 1 d_ty_ctors = true := by kernel_rfl
theorem m_strconv_Itoa : mFun Tryd.prog 27 1 d_strconv_Itoa = true := by kernel_rfl
theorem m_ty_great : mFun Tryd.prog 28 1 d_ty_great = true := by kernel_rfl
theorem m_ident_Low : mFun Tryd.prog 29 1 d_ident_Low = true := by kernel_rfl
theorem m_ident_High : mFun Tryd.prog 30 1 d_ident_High = true := by kernel_rfl
theorem m_ident_Once : mFun Tryd.prog 31 1 d_ident_Once = true := by kernel_rfl
theorem m_noriaref04_Low : mFun Tryd.prog 32 1 d_noriaref04_Low = true := by kernel_rfl
theorem m_noriaref04_High : mFun Tryd.prog 33 1 d_noriaref04_High = true := by kernel_rfl
theorem m_noriaref04_Once : mFun Tryd.prog 34 1 d_noriaref04_Once = true := by kernel_rfl
theorem m_ty_ctors_1 : mFun Tryd.prog 35 2 d_ty_ctors_1 = true := by kernel_rfl
theorem m_internal_strconv_Itoa : mFun Tryd.prog 36 1 d_internal_strconv_Itoa = true := by kernel_rfl
theorem m_slices_ContainsFunc_api_Enum_api_Enum : mFun Tryd.prog 37 2 d_slices_ContainsFunc_api_Enum_api_Enum = true := by kernel_rfl
theorem m_ty_great_1 : mFun Tryd.prog 38 1 d_ty_great_1 = true := by kernel_rfl
theorem m_ident_name : mFun Tryd.prog 39 2 d_ident_name = true := by kernel_rfl
theorem m_ident_small : mFun Tryd.prog 40 1 d_ident_small = true := by kernel_rfl
theorem m_ident_Word : mFun Tryd.prog 41 1 d_ident_Word = true := by kernel_rfl
theorem m_ident_great : mFun Tryd.prog 42 1 d_ident_great = true := by kernel_rfl
theorem m_noriaref04_name : mFun Tryd.prog 43 3 d_noriaref04_name = true := by kernel_rfl
theorem m_noriaref04_Word : mFun Tryd.prog 44 1 d_noriaref04_Word = true := by kernel_rfl
theorem m_internal_strconv_FormatInt : mFun Tryd.prog 45 2 d_internal_strconv_FormatInt = true := by kernel_rfl
theorem m_slices_IndexFunc_api_Enum_api_Enum : mFun Tryd.prog 46 2 d_slices_IndexFunc_api_Enum_api_Enum = true := by kernel_rfl
theorem m_ident_digit : mFun Tryd.prog 47 1 d_ident_digit = true := by kernel_rfl
theorem m_noriaref04_in : mFun Tryd.prog 48 3 d_noriaref04_in = true := by kernel_rfl
theorem m_noriaref04_Words : mFun Tryd.prog 49 0 d_noriaref04_Words = true := by kernel_rfl
theorem m_internal_strconv_small : mFun Tryd.prog 50 1 d_internal_strconv_small = true := by kernel_rfl
theorem m_internal_strconv_numDigits : mFun Tryd.prog 51 1 d_internal_strconv_numDigits = true := by kernel_rfl
theorem m_internal_strconv_formatBase10 : mFun Tryd.prog 52 2 d_internal_strconv_formatBase10 = true := by kernel_rfl
theorem m_internal_strconv_formatBits : mFun Tryd.prog 53 5 d_internal_strconv_formatBits = true := by kernel_rfl
theorem m_internal_strconv_log10Pow2 : mFun Tryd.prog 54 1 d_internal_strconv_log10Pow2 = true := by kernel_rfl
theorem m_math_bits_Len64 : mFun Tryd.prog 55 1 d_math_bits_Len64 = true := by kernel_rfl
theorem m_internal_strconv_bool2_int : mFun Tryd.prog 56 1 d_internal_strconv_bool2_int = true := by kernel_rfl
theorem m_internal_strconv_isPowerOfTwo : mFun Tryd.prog 57 1 d_internal_strconv_isPowerOfTwo = true := by kernel_rfl
theorem m_math_bits_TrailingZeros : mFun Tryd.prog 58 1 d_math_bits_TrailingZeros = true := by kernel_rfl
theorem m_math_bits_TrailingZeros32 : mFun Tryd.prog 59 1 d_math_bits_TrailingZeros32 = true := by kernel_rfl
theorem m_math_bits_TrailingZeros64 : mFun Tryd.prog 60 1 d_math_bits_TrailingZeros64 = true := by kernel_rfl
theorem m_gosem_cut_vars : mFun Tryd.prog 82 0 d_gosem_cut_vars = true := by kernel_rfl
end Go.Proofs.YtkefjfaeaalmbaaDoor
