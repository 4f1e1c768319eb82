/- The data-level readings are those of the program. -/
import Derived.Test.YtlbemkkfgijljaaFnd
import Derived.Test.YtlbemkkfgijljaaChecked
set_option linter.all false
namespace Go.Proofs.Ytlbemkkfgijljaa
open Go.Nk

theorem m_norialaw23_MemPuts : mFun Try.prog 3 3 d_norialaw23_MemPuts = true := by kernel_rfl
theorem m_norialaw23_MemFinds : mFun Try.prog 4 3 d_norialaw23_MemFinds = true := by kernel_rfl
theorem m_norialaw23_MemStarts : mFun Try.prog 5 2 d_norialaw23_MemStarts = true := by kernel_rfl
theorem m_norialaw23_MemOnce : mFun Try.prog 6 3 d_norialaw23_MemOnce = true := by kernel_rfl
theorem m_noriaref23_Few : mFun Try.prog 7 1 d_noriaref23_Few = true := by kernel_rfl
theorem m_norialaw23_live : mFun Try.prog 8 0 d_norialaw23_live = true := by kernel_rfl
theorem m_mem_Put : mFun Try.prog 9 3 d_mem_Put = true := by kernel_rfl
theorem m_noriaref23_Same : mFun Try.prog 10 2 d_noriaref23_Same = true := by kernel_rfl
theorem m_noriaref23_Put : mFun Try.prog 11 3 d_noriaref23_Put = true := by kernel_rfl
theorem m_mem_Get : mFun Try.prog 12 2 d_mem_Get = true := by kernel_rfl
theorem m_noriaref01_Vals : mFun Try.prog 13 2 d_noriaref01_Vals = true := by kernel_rfl
theorem m_noriaref23_Get : mFun Try.prog 14 2 d_noriaref23_Get = true := by kernel_rfl
theorem m_mem_Under : mFun Try.prog 15 2 d_mem_Under = true := by kernel_rfl
theorem m_noriaref23_Under : mFun Try.prog 16 2 d_noriaref23_Under = true := by kernel_rfl
theorem m_mem_Over : mFun Try.prog 17 3 d_mem_Over = true := by kernel_rfl
theorem m_noriaref23_Over : mFun Try.prog 18 3 d_noriaref23_Over = true := by kernel_rfl
theorem m_mem_Same : mFun Try.prog 19 2 d_mem_Same = true := by kernel_rfl
theorem m_norialaw23_few : mFun Try.prog 20 1 d_norialaw23_few = true := by kernel_rfl
theorem m_mem_Count : mFun Try.prog 21 2 d_mem_Count = true := by kernel_rfl
theorem m_noriaref23_Count : mFun Try.prog 22 2 d_noriaref23_Count = true := by kernel_rfl
theorem m_mem_Start : mFun Try.prog 23 2 d_mem_Start = true := by kernel_rfl
theorem m_noriaref23_Start : mFun Try.prog 24 2 d_noriaref23_Start = true := by kernel_rfl
theorem m_norialaw23_once : mFun Try.prog 25 1 d_norialaw23_once = true := by kernel_rfl
theorem m_mem_each : mFun Try.prog 26 2 d_mem_each = true := by kernel_rfl
theorem m_mem_Put_1 : mFun Try.prog 27 3 d_mem_Put_1 = true := by kernel_rfl
theorem m_slices_IndexFunc_api_Cell_api_Cell : mFun Try.prog 28 2 d_slices_IndexFunc_api_Cell_api_Cell = true := by kernel_rfl
theorem m_mem_Get_1 : mFun Try.prog 29 2 d_mem_Get_1 = true := by kernel_rfl
theorem m_mem_values : mFun Try.prog 30 1 d_mem_values = true := by kernel_rfl
theorem m_strings_CutPrefix : mFun Try.prog 31 2 d_strings_CutPrefix = true := by kernel_rfl
theorem m_noriaref23_rest : mFun Try.prog 32 2 d_noriaref23_rest = true := by kernel_rfl
theorem m_mem_Over_1 : mFun Try.prog 33 3 d_mem_Over_1 = true := by kernel_rfl
theorem m_slices_EqualFunc_api_Cell_api_Cell_api_Cell_api_Cell : mFun Try.prog 34 3 d_slices_EqualFunc_api_Cell_api_Cell_api_Cell_api_Cell = true := by kernel_rfl
theorem m_mem_Same_1 : mFun Try.prog 35 2 d_mem_Same_1 = true := by kernel_rfl
theorem m_slices_Equal_int64_int64 : mFun Try.prog 36 2 d_slices_Equal_int64_int64 = true := by kernel_rfl
theorem m_noriaref22_Few : mFun Try.prog 37 1 d_noriaref22_Few = true := by kernel_rfl
theorem m_mem_kept : mFun Try.prog 38 1 d_mem_kept = true := by kernel_rfl
theorem m_mem_calls : mFun Try.prog 39 2 d_mem_calls = true := by kernel_rfl
theorem m_noriaref23_part : mFun Try.prog 40 2 d_noriaref23_part = true := by kernel_rfl
theorem m_noriaref23_cut : mFun Try.prog 41 1 d_noriaref23_cut = true := by kernel_rfl
theorem m_mem_below : mFun Try.prog 42 4 d_mem_below = true := by kernel_rfl
theorem m_mem_Start_1 : mFun Try.prog 43 2 d_mem_Start_1 = true := by kernel_rfl
theorem m_noriaref23_start : mFun Try.prog 44 2 d_noriaref23_start = true := by kernel_rfl
theorem m_internal_stringslite_CutPrefix : mFun Try.prog 45 2 d_internal_stringslite_CutPrefix = true := by kernel_rfl
theorem m_noriaref22_few : mFun Try.prog 46 1 d_noriaref22_few = true := by kernel_rfl
theorem m_mem_kept_1 : mFun Try.prog 47 2 d_mem_kept_1 = true := by kernel_rfl
theorem m_mem_calls_1 : mFun Try.prog 48 3 d_mem_calls_1 = true := by kernel_rfl
theorem m_internal_stringslite_HasPrefix : mFun Try.prog 49 2 d_internal_stringslite_HasPrefix = true := by kernel_rfl
end Go.Proofs.Ytlbemkkfgijljaa
