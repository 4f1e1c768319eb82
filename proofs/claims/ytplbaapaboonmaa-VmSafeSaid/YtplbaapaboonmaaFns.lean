/- The data-level readings are those of the program. -/
import Derived.Test.YtplbaapaboonmaaFnd
import Derived.Test.YtplbaapaboonmaaChecked
set_option linter.all false
namespace Go.Proofs.Ytplbaapaboonmaa
open Go.Nk

theorem m_norialaw30_VmRuns : mFun Try.prog 3 3 d_norialaw30_VmRuns = true := by kernel_rfl
theorem m_norialaw30_VmFuel : mFun Try.prog 4 3 d_norialaw30_VmFuel = true := by kernel_rfl
theorem m_norialaw30_VmRight : mFun Try.prog 5 2 d_norialaw30_VmRight = true := by kernel_rfl
theorem m_norialaw30_VmSafe : mFun Try.prog 6 3 d_norialaw30_VmSafe = true := by kernel_rfl
theorem m_norialaw30_live : mFun Try.prog 7 0 d_norialaw30_live = true := by kernel_rfl
theorem m_vm_Run : mFun Try.prog 8 3 d_vm_Run = true := by kernel_rfl
theorem m_noriaref30_Run : mFun Try.prog 9 3 d_noriaref30_Run = true := by kernel_rfl
theorem m_noriaref01_Vals : mFun Try.prog 10 2 d_noriaref01_Vals = true := by kernel_rfl
theorem m_norialaw30_num : mFun Try.prog 11 1 d_norialaw30_num = true := by kernel_rfl
theorem m_vm_Right : mFun Try.prog 12 2 d_vm_Right = true := by kernel_rfl
theorem m_noriaref30_Right : mFun Try.prog 13 2 d_noriaref30_Right = true := by kernel_rfl
theorem m_noriaref29_Check : mFun Try.prog 14 2 d_noriaref29_Check = true := by kernel_rfl
theorem m_slices_Clone_int64_int64 : mFun Try.prog 15 1 d_slices_Clone_int64_int64 = true := by kernel_rfl
theorem m_vm_machine_run : mFun Try.prog 16 3 d_vm_machine_run = true := by kernel_rfl
theorem m_noriaref28_Right : mFun Try.prog 17 1 d_noriaref28_Right = true := by kernel_rfl
theorem m_noriaref30_R_do : mFun Try.prog 18 2 d_noriaref30_R_do = true := by kernel_rfl
theorem m_verify_Shape : mFun Try.prog 19 1 d_verify_Shape = true := by kernel_rfl
theorem m_noriaref29_Shape : mFun Try.prog 20 1 d_noriaref29_Shape = true := by kernel_rfl
theorem m_noriaref29_Value : mFun Try.prog 21 3 d_noriaref29_Value = true := by kernel_rfl
theorem m_noriaref29_Next : mFun Try.prog 22 3 d_noriaref29_Next = true := by kernel_rfl
theorem m_noriaref29_same : mFun Try.prog 23 2 d_noriaref29_same = true := by kernel_rfl
theorem m_vm_machine_do : mFun Try.prog 24 2 d_vm_machine_do = true := by kernel_rfl
theorem m_noriaref28_place : mFun Try.prog 25 1 d_noriaref28_place = true := by kernel_rfl
theorem m_noriaref30_R_push : mFun Try.prog 26 2 d_noriaref30_R_push = true := by kernel_rfl
theorem m_noriaref30_R_there : mFun Try.prog 27 3 d_noriaref30_R_there = true := by kernel_rfl
theorem m_noriaref30_R_pop : mFun Try.prog 28 1 d_noriaref30_R_pop = true := by kernel_rfl
theorem m_noriaref30_R_operate : mFun Try.prog 29 2 d_noriaref30_R_operate = true := by kernel_rfl
theorem m_noriaref30_R_place : mFun Try.prog 30 2 d_noriaref30_R_place = true := by kernel_rfl
theorem m_slices_ContainsFunc_int_int : mFun Try.prog 31 2 d_slices_ContainsFunc_int_int = true := by kernel_rfl
theorem m_verify_Shape_1 : mFun Try.prog 32 1 d_verify_Shape_1 = true := by kernel_rfl
theorem m_verify_Shape_2 : mFun Try.prog 33 2 d_verify_Shape_2 = true := by kernel_rfl
theorem m_verify_shape_is : mFun Try.prog 34 2 d_verify_shape_is = true := by kernel_rfl
theorem m_noriaref29_Kind : mFun Try.prog 35 2 d_noriaref29_Kind = true := by kernel_rfl
theorem m_noriaref29_without : mFun Try.prog 36 3 d_noriaref29_without = true := by kernel_rfl
theorem m_noriaref07_UnTy : mFun Try.prog 37 2 d_noriaref07_UnTy = true := by kernel_rfl
theorem m_noriaref29_ty : mFun Try.prog 38 1 d_noriaref29_ty = true := by kernel_rfl
theorem m_noriaref29_top : mFun Try.prog 39 2 d_noriaref29_top = true := by kernel_rfl
theorem m_noriaref29_kind : mFun Try.prog 40 1 d_noriaref29_kind = true := by kernel_rfl
theorem m_noriaref07_BinTy : mFun Try.prog 41 3 d_noriaref07_BinTy = true := by kernel_rfl
theorem m_noriaref29_memory : mFun Try.prog 42 3 d_noriaref29_memory = true := by kernel_rfl
theorem m_instr_Right : mFun Try.prog 43 1 d_instr_Right = true := by kernel_rfl
theorem m_vm_machine_push : mFun Try.prog 44 2 d_vm_machine_push = true := by kernel_rfl
theorem m_vm_machine_move : mFun Try.prog 45 2 d_vm_machine_move = true := by kernel_rfl
theorem m_vm_machine_operate : mFun Try.prog 46 2 d_vm_machine_operate = true := by kernel_rfl
theorem m_vm_machine_has : mFun Try.prog 47 2 d_vm_machine_has = true := by kernel_rfl
theorem m_vm_machine_pop : mFun Try.prog 48 1 d_vm_machine_pop = true := by kernel_rfl
theorem m_vm_machine_get : mFun Try.prog 49 2 d_vm_machine_get = true := by kernel_rfl
theorem m_vm_machine_put : mFun Try.prog 50 2 d_vm_machine_put = true := by kernel_rfl
theorem m_noriaref07_Un : mFun Try.prog 51 2 d_noriaref07_Un = true := by kernel_rfl
theorem m_noriaref07_Bin : mFun Try.prog 52 3 d_noriaref07_Bin = true := by kernel_rfl
theorem m_slices_IndexFunc_int_int : mFun Try.prog 53 2 d_slices_IndexFunc_int_int = true := by kernel_rfl
theorem m_noriaref07_plain : mFun Try.prog 54 1 d_noriaref07_plain = true := by kernel_rfl
theorem m_noriaref29_cells : mFun Try.prog 55 3 d_noriaref29_cells = true := by kernel_rfl
theorem m_noriaref29_free : mFun Try.prog 56 3 d_noriaref29_free = true := by kernel_rfl
theorem m_instr_of : mFun Try.prog 57 1 d_instr_of = true := by kernel_rfl
theorem m_instr_first : mFun Try.prog 58 1 d_instr_first = true := by kernel_rfl
theorem m_instr_within : mFun Try.prog 59 3 d_instr_within = true := by kernel_rfl
theorem m_vm_machine_there : mFun Try.prog 60 3 d_vm_machine_there = true := by kernel_rfl
theorem m_arith_Un : mFun Try.prog 61 2 d_arith_Un = true := by kernel_rfl
theorem m_arith_Bin : mFun Try.prog 62 3 d_arith_Bin = true := by kernel_rfl
theorem m_noriaref07_truth : mFun Try.prog 63 1 d_noriaref07_truth = true := by kernel_rfl
theorem m_noriaref07_number : mFun Try.prog 64 3 d_noriaref07_number = true := by kernel_rfl
theorem m_arith_truth : mFun Try.prog 65 1 d_arith_truth = true := by kernel_rfl
theorem m_arith_group : mFun Try.prog 66 1 d_arith_group = true := by kernel_rfl
theorem m_arith_number : mFun Try.prog 67 3 d_arith_number = true := by kernel_rfl
theorem m_arith_holds : mFun Try.prog 68 3 d_arith_holds = true := by kernel_rfl
theorem m_noriaref07_quotient : mFun Try.prog 69 2 d_noriaref07_quotient = true := by kernel_rfl
theorem m_arith_divided : mFun Try.prog 70 2 d_arith_divided = true := by kernel_rfl
theorem m_noriaref07_size : mFun Try.prog 71 1 d_noriaref07_size = true := by kernel_rfl
end Go.Proofs.Ytplbaapaboonmaa
