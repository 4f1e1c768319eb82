/- The data-level readings are those of the program. -/
import Derived.Test.YtjgefhgkinocmaaGreatFnd
import Derived.Test.YtjgefhgkinocmaaGreatChecked
set_option linter.all false
namespace Go.Proofs.YtjgefhgkinocmaaGreat
open Go.Nk

instance : Inhabited Env := ⟨Env.none⟩

theorem m_norialaw41_MoveStays : mFun Tryz.prog 4 2 d_norialaw41_MoveStays = true := by kernel_rfl
theorem m_norialaw38_Fit : mFun Tryz.prog 5 3 d_norialaw38_Fit = true := by kernel_rfl
theorem m_norialaw41_right : mFun Tryz.prog 6 2 d_norialaw41_right = true := by kernel_rfl
theorem m_norialaw41_live : mFun Tryz.prog 7 0 d_norialaw41_live = true := by kernel_rfl
theorem m_plan_Make : mFun Tryz.prog 8 3 d_plan_Make = true := by kernel_rfl
theorem m_norialaw41_num : mFun Tryz.prog 9 1 d_norialaw41_num = true := by kernel_rfl
theorem m_move_All : mFun Tryz.prog 10 3 d_move_All = true := by kernel_rfl
theorem m_noriaref01_Vals : mFun Tryz.prog 12 2 d_noriaref01_Vals = true := by kernel_rfl
theorem m_noriaref33_Few : mFun Tryz.prog 13 1 d_noriaref33_Few = true := by kernel_rfl
theorem m_noriaref37_Few : mFun Tryz.prog 14 1 d_noriaref37_Few = true := by kernel_rfl
theorem m_noriaref34_Form : mFun Tryz.prog 15 1 d_noriaref34_Form = true := by kernel_rfl
theorem m_noriaref27_Read : mFun Tryz.prog 17 2 d_noriaref27_Read = true := by kernel_rfl
theorem m_noriaref27_Cells : mFun Tryz.prog 18 1 d_noriaref27_Cells = true := by kernel_rfl
theorem m_noriaref06_Right : mFun Tryz.prog 19 3 d_noriaref06_Right = true := by kernel_rfl
theorem m_move_One : mFun Tryz.prog 20 3 d_move_One = true := by kernel_rfl
theorem m_mtype_Check : mFun Tryz.prog 21 3 d_mtype_Check = true := by kernel_rfl
theorem m_differ_Diff : mFun Tryz.prog 22 2 d_differ_Diff = true := by kernel_rfl
theorem m_plan_step : mFun Tryz.prog 23 5 d_plan_step = true := by kernel_rfl
theorem m_plan_Right : mFun Tryz.prog 24 2 d_plan_Right = true := by kernel_rfl
theorem m_move_each : mFun Tryz.prog 25 3 d_move_each = true := by kernel_rfl
theorem m_noriaref27_Find : mFun Tryz.prog 29 2 d_noriaref27_Find = true := by kernel_rfl
theorem m_noriaref05_Cells : mFun Tryz.prog 30 1 d_noriaref05_Cells = true := by kernel_rfl
theorem m_noriaref05_Small : mFun Tryz.prog 31 1 d_noriaref05_Small = true := by kernel_rfl
theorem m_noriaref05_Enums : mFun Tryz.prog 33 1 d_noriaref05_Enums = true := by kernel_rfl
theorem m_noriaref27_Right : mFun Tryz.prog 34 2 d_noriaref27_Right = true := by kernel_rfl
theorem m_noriaref04_Low : mFun Tryz.prog 35 1 d_noriaref04_Low = true := by kernel_rfl
theorem m_noriaref05_Right : mFun Tryz.prog 36 2 d_noriaref05_Right = true := by kernel_rfl
theorem m_noriaref04_Once : mFun Tryz.prog 37 1 d_noriaref04_Once = true := by kernel_rfl
theorem m_noriaref29_Shape : mFun Tryz.prog 38 1 d_noriaref29_Shape = true := by kernel_rfl
theorem m_noriaref32_Shape : mFun Tryz.prog 39 1 d_noriaref32_Shape = true := by kernel_rfl
theorem m_noriaref06_One : mFun Tryz.prog 44 3 d_noriaref06_One = true := by kernel_rfl
theorem m_move_one : mFun Tryz.prog 45 3 d_move_one = true := by kernel_rfl
theorem m_differ_what : mFun Tryz.prog 47 3 d_differ_what = true := by kernel_rfl
theorem m_tree_Find : mFun Tryz.prog 48 2 d_tree_Find = true := by kernel_rfl
theorem m_ty_Cells : mFun Tryz.prog 49 1 d_ty_Cells = true := by kernel_rfl
theorem m_plan_moved : mFun Tryz.prog 50 2 d_plan_moved = true := by kernel_rfl
theorem m_slices_Clone_int64_int64 : mFun Tryz.prog 52 1 d_slices_Clone_int64_int64 = true := by kernel_rfl
theorem m_plan_right : mFun Tryz.prog 53 3 d_plan_right = true := by kernel_rfl
theorem m_move_each_1 : mFun Tryz.prog 54 4 d_move_each_1 = true := by kernel_rfl
theorem m_noriaref04_High : mFun Tryz.prog 60 1 d_noriaref04_High = true := by kernel_rfl
theorem m_noriaref04_Path : mFun Tryz.prog 61 1 d_noriaref04_Path = true := by kernel_rfl
theorem m_noriaref04_name : mFun Tryz.prog 62 3 d_noriaref04_name = true := by kernel_rfl
theorem m_noriaref04_Word : mFun Tryz.prog 63 1 d_noriaref04_Word = true := by kernel_rfl
theorem m_noriaref29_Kind : mFun Tryz.prog 64 2 d_noriaref29_Kind = true := by kernel_rfl
theorem m_noriaref32_kinds : mFun Tryz.prog 65 2 d_noriaref32_kinds = true := by kernel_rfl
theorem m_move_run : mFun Tryz.prog 71 3 d_move_run = true := by kernel_rfl
theorem m_mtype_Here : mFun Tryz.prog 75 3 d_mtype_Here = true := by kernel_rfl
theorem m_slices_IndexFunc_api_Slot_api_Slot : mFun Tryz.prog 76 2 d_slices_IndexFunc_api_Slot_api_Slot = true := by kernel_rfl
theorem m_tree_Find_1 : mFun Tryz.prog 77 2 d_tree_Find_1 = true := by kernel_rfl
theorem m_slices_IndexFunc_api_Move_api_Move : mFun Tryz.prog 78 2 d_slices_IndexFunc_api_Move_api_Move = true := by kernel_rfl
theorem m_noriaref04_cut : mFun Tryz.prog 88 2 d_noriaref04_cut = true := by kernel_rfl
theorem m_noriaref04_in : mFun Tryz.prog 89 3 d_noriaref04_in = true := by kernel_rfl
theorem m_noriaref04_Words : mFun Tryz.prog 90 0 d_noriaref04_Words = true := by kernel_rfl
theorem m_noriaref06_Kind : mFun Tryz.prog 91 1 d_noriaref06_Kind = true := by kernel_rfl
theorem m_slices_Concat_int64_int64 : mFun Tryz.prog 94 1 d_slices_Concat_int64_int64 = true := by kernel_rfl
theorem m_vm_Run : mFun Tryz.prog 95 3 d_vm_Run = true := by kernel_rfl
theorem m_ty_Right : mFun Tryz.prog 105 2 d_ty_Right = true := by kernel_rfl
theorem m_ty_Alike : mFun Tryz.prog 106 4 d_ty_Alike = true := by kernel_rfl
theorem m_ty_One : mFun Tryz.prog 107 1 d_ty_One = true := by kernel_rfl
theorem m_slices_Grow_int64_int64 : mFun Tryz.prog 116 2 d_slices_Grow_int64_int64 = true := by kernel_rfl
theorem m_vm_machine_run : mFun Tryz.prog 117 3 d_vm_machine_run = true := by kernel_rfl
theorem m_slices_Equal_string_string : mFun Tryz.prog 122 2 d_slices_Equal_string_string = true := by kernel_rfl
theorem m_vm_machine_do : mFun Tryz.prog 126 2 d_vm_machine_do = true := by kernel_rfl
theorem m_instr_Right : mFun Tryz.prog 132 1 d_instr_Right = true := by kernel_rfl
theorem m_vm_machine_push : mFun Tryz.prog 133 2 d_vm_machine_push = true := by kernel_rfl
theorem m_vm_machine_move : mFun Tryz.prog 134 2 d_vm_machine_move = true := by kernel_rfl
theorem m_vm_machine_operate : mFun Tryz.prog 135 2 d_vm_machine_operate = true := by kernel_rfl
theorem m_vm_machine_has : mFun Tryz.prog 136 2 d_vm_machine_has = true := by kernel_rfl
theorem m_vm_machine_pop : mFun Tryz.prog 137 1 d_vm_machine_pop = true := by kernel_rfl
theorem m_vm_machine_get : mFun Tryz.prog 138 2 d_vm_machine_get = true := by kernel_rfl
theorem m_vm_machine_put : mFun Tryz.prog 139 2 d_vm_machine_put = true := by kernel_rfl
theorem m_arith_group : mFun Tryz.prog 141 1 d_arith_group = true := by kernel_rfl
theorem m_instr_of : mFun Tryz.prog 143 1 d_instr_of = true := by kernel_rfl
theorem m_instr_first : mFun Tryz.prog 144 1 d_instr_first = true := by kernel_rfl
theorem m_instr_within : mFun Tryz.prog 145 3 d_instr_within = true := by kernel_rfl
theorem m_vm_machine_there : mFun Tryz.prog 146 3 d_vm_machine_there = true := by kernel_rfl
theorem m_arith_Un : mFun Tryz.prog 147 2 d_arith_Un = true := by kernel_rfl
theorem m_arith_Bin : mFun Tryz.prog 148 3 d_arith_Bin = true := by kernel_rfl
theorem m_arith_truth : mFun Tryz.prog 149 1 d_arith_truth = true := by kernel_rfl
theorem m_arith_number : mFun Tryz.prog 150 3 d_arith_number = true := by kernel_rfl
theorem m_arith_holds : mFun Tryz.prog 151 3 d_arith_holds = true := by kernel_rfl
theorem m_arith_divided : mFun Tryz.prog 152 2 d_arith_divided = true := by kernel_rfl
end Go.Proofs.YtjgefhgkinocmaaGreat
