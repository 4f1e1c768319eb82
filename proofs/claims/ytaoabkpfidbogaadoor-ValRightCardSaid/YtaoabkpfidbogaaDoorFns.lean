/- The data-level readings are those of the program. -/
import Derived.Test.YtaoabkpfidbogaaDoorFnd
import Derived.Test.YtaoabkpfidbogaaDoorChecked
set_option linter.all false
namespace Go.Proofs.YtaoabkpfidbogaaDoor
open Go.Nk

instance : Inhabited Env := ⟨Env.tab Tryd.prog "internal/strconv.uint64pow10" .u64 ((List.range 20).map fun i => ((10 ^ i : Nat) : Int))⟩

theorem m_norialaw06_ValTexts : mFun Tryd.prog 3 3 d_norialaw06_ValTexts = true := by kernel_rfl
theorem m_norialaw06_ValApart : mFun Tryd.prog 4 3 d_norialaw06_ValApart = true := by kernel_rfl
theorem m_norialaw06_ValRight : mFun Tryd.prog 5 3 d_norialaw06_ValRight = true := by kernel_rfl
theorem m_noriaref05_Small : mFun Tryd.prog 6 1 d_noriaref05_Small = true := by kernel_rfl
theorem m_norialaw06_live : mFun Tryd.prog 7 0 d_norialaw06_live = true := by kernel_rfl
theorem m_val_Text : mFun Tryd.prog 8 3 d_val_Text = true := by kernel_rfl
theorem m_noriaref06_Text : mFun Tryd.prog 9 3 d_noriaref06_Text = true := by kernel_rfl
theorem m_noriaref05_Enums : mFun Tryd.prog 10 1 d_noriaref05_Enums = true := by kernel_rfl
theorem m_noriaref05_Right : mFun Tryd.prog 11 2 d_noriaref05_Right = true := by kernel_rfl
theorem m_val_Right : mFun Tryd.prog 12 3 d_val_Right = true := by kernel_rfl
theorem m_val_Zero : mFun Tryd.prog 13 1 d_val_Zero = true := by kernel_rfl
theorem m_noriaref01_Vals : mFun Tryd.prog 14 2 d_noriaref01_Vals = true := by kernel_rfl
theorem m_val_One : mFun Tryd.prog 15 3 d_val_One = true := by kernel_rfl
theorem m_noriaref06_One : mFun Tryd.prog 16 3 d_noriaref06_One = true := by kernel_rfl
theorem m_noriaref06_Right : mFun Tryd.prog 17 3 d_noriaref06_Right = true := by kernel_rfl
theorem m_noriaref06_Zero : mFun Tryd.prog 18 1 d_noriaref06_Zero = true := by kernel_rfl
theorem m_val_Kind : mFun Tryd.prog 19 1 d_val_Kind = true := by kernel_rfl
theorem m_noriaref06_Kind : mFun Tryd.prog 20 1 d_noriaref06_Kind = true := by kernel_rfl
theorem m_val_Same : mFun Tryd.prog 21 2 d_val_Same = true := by kernel_rfl
theorem m_val_cells : mFun Tryd.prog 22 2 d_val_cells = true := by kernel_rfl
theorem m_strings_Join : mFun Tryd.prog 23 2 d_strings_Join = true := by kernel_rfl
theorem m_noriaref06_cell : mFun Tryd.prog 24 3 d_noriaref06_cell = true := by kernel_rfl
theorem m_noriaref04_Low : mFun Tryd.prog 25 1 d_noriaref04_Low = true := by kernel_rfl
theorem m_noriaref04_High : mFun Tryd.prog 26 1 d_noriaref04_High = true := by kernel_rfl
theorem m_noriaref04_Once : mFun Tryd.prog 27 1 d_noriaref04_Once = true := by kernel_rfl
theorem m_val_Right_1 : mFun Tryd.prog 28 3 d_val_Right_1 = true := by kernel_rfl
theorem m_ty_Right : mFun Tryd.prog 29 2 d_ty_Right = true := by kernel_rfl
theorem m_ty_Cells : mFun Tryd.prog 30 1 d_ty_Cells = true := by kernel_rfl
theorem m_slices_ContainsFunc_int64_int64 : mFun Tryd.prog 31 2 d_slices_ContainsFunc_int64_int64 = true := by kernel_rfl
theorem m_noriaref05_Cells : mFun Tryd.prog 32 1 d_noriaref05_Cells = true := by kernel_rfl
theorem m_slices_Equal_int64_int64 : mFun Tryd.prog 33 2 d_slices_Equal_int64_int64 = true := by kernel_rfl
theorem m_val_cells_1 : mFun Tryd.prog 34 1 d_val_cells_1 = true := by kernel_rfl
theorem m_strconv_FormatBool : mFun Tryd.prog 35 1 d_strconv_FormatBool = true := by kernel_rfl
theorem m_val_cells_2 : mFun Tryd.prog 36 3 d_val_cells_2 = true := by kernel_rfl
theorem m_val_cells_3 : mFun Tryd.prog 37 1 d_val_cells_3 = true := by kernel_rfl
theorem m_strconv_FormatInt : mFun Tryd.prog 38 2 d_strconv_FormatInt = true := by kernel_rfl
theorem m_strings_Builder_Grow : mFun Tryd.prog 39 2 d_strings_Builder_Grow = true := by kernel_rfl
theorem m_noriaref06_Digits : mFun Tryd.prog 42 1 d_noriaref06_Digits = true := by kernel_rfl
theorem m_noriaref04_name : mFun Tryd.prog 43 3 d_noriaref04_name = true := by kernel_rfl
theorem m_noriaref04_Word : mFun Tryd.prog 44 1 d_noriaref04_Word = true := by kernel_rfl
theorem m_slices_IndexFunc_int64_int64 : mFun Tryd.prog 45 2 d_slices_IndexFunc_int64_int64 = true := by kernel_rfl
theorem m_internal_strconv_FormatBool : mFun Tryd.prog 46 1 d_internal_strconv_FormatBool = true := by kernel_rfl
theorem m_internal_strconv_FormatInt : mFun Tryd.prog 47 2 d_internal_strconv_FormatInt = true := by kernel_rfl
theorem m_strings_Builder_grow : mFun Tryd.prog 49 2 d_strings_Builder_grow = true := by kernel_rfl
theorem m_noriaref04_in : mFun Tryd.prog 50 3 d_noriaref04_in = true := by kernel_rfl
theorem m_noriaref04_Words : mFun Tryd.prog 51 0 d_noriaref04_Words = true := by kernel_rfl
theorem m_internal_strconv_small : mFun Tryd.prog 52 1 d_internal_strconv_small = true := by kernel_rfl
theorem m_internal_strconv_numDigits : mFun Tryd.prog 53 1 d_internal_strconv_numDigits = true := by kernel_rfl
theorem m_internal_strconv_formatBase10 : mFun Tryd.prog 54 2 d_internal_strconv_formatBase10 = true := by kernel_rfl
theorem m_internal_strconv_formatBits : mFun Tryd.prog 55 5 d_internal_strconv_formatBits = true := by kernel_rfl
theorem m_internal_strconv_log10Pow2 : mFun Tryd.prog 58 1 d_internal_strconv_log10Pow2 = true := by kernel_rfl
theorem m_math_bits_Len64 : mFun Tryd.prog 59 1 d_math_bits_Len64 = true := by kernel_rfl
theorem m_internal_strconv_bool2_int : mFun Tryd.prog 60 1 d_internal_strconv_bool2_int = true := by kernel_rfl
theorem m_internal_strconv_isPowerOfTwo : mFun Tryd.prog 61 1 d_internal_strconv_isPowerOfTwo = true := by kernel_rfl
theorem m_math_bits_TrailingZeros : mFun Tryd.prog 62 1 d_math_bits_TrailingZeros = true := by kernel_rfl
theorem m_math_bits_TrailingZeros32 : mFun Tryd.prog 63 1 d_math_bits_TrailingZeros32 = true := by kernel_rfl
theorem m_math_bits_TrailingZeros64 : mFun Tryd.prog 64 1 d_math_bits_TrailingZeros64 = true := by kernel_rfl
theorem m_gosem_cut_vars : mFun Tryd.prog 87 0 d_gosem_cut_vars = true := by kernel_rfl
end Go.Proofs.YtaoabkpfidbogaaDoor
