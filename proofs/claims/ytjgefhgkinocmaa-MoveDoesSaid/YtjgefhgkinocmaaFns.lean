/- The data-level readings are those of the program. -/
import Derived.Test.YtjgefhgkinocmaaFnd
import Derived.Test.YtjgefhgkinocmaaChecked
set_option linter.all false
namespace Go.Proofs.Ytjgefhgkinocmaa
open Go.Nk

instance : Inhabited Env := ⟨Env.none⟩

theorem m_norialaw41_MoveDoes : mFun Try.prog 3 3 d_norialaw41_MoveDoes = true := by kernel_rfl
theorem m_noriaref40_Few : mFun Try.prog 4 1 d_noriaref40_Few = true := by kernel_rfl
theorem m_norialaw41_live : mFun Try.prog 5 0 d_norialaw41_live = true := by kernel_rfl
theorem m_move_One : mFun Try.prog 6 3 d_move_One = true := by kernel_rfl
theorem m_noriaref41_One : mFun Try.prog 7 3 d_noriaref41_One = true := by kernel_rfl
theorem m_noriaref01_Vals : mFun Try.prog 8 2 d_noriaref01_Vals = true := by kernel_rfl
theorem m_norialaw41_num : mFun Try.prog 9 1 d_norialaw41_num = true := by kernel_rfl
theorem m_move_All : mFun Try.prog 10 3 d_move_All = true := by kernel_rfl
theorem m_noriaref41_All : mFun Try.prog 11 3 d_noriaref41_All = true := by kernel_rfl
theorem m_plan_Right : mFun Try.prog 12 2 d_plan_Right = true := by kernel_rfl
theorem m_move_one : mFun Try.prog 13 3 d_move_one = true := by kernel_rfl
theorem m_noriaref40_Right : mFun Try.prog 14 2 d_noriaref40_Right = true := by kernel_rfl
theorem m_noriaref30_Run : mFun Try.prog 15 3 d_noriaref30_Run = true := by kernel_rfl
theorem m_move_each : mFun Try.prog 16 3 d_move_each = true := by kernel_rfl
theorem m_plan_right : mFun Try.prog 17 3 d_plan_right = true := by kernel_rfl
theorem m_slices_Clone_int64_int64 : mFun Try.prog 18 1 d_slices_Clone_int64_int64 = true := by kernel_rfl
theorem m_move_run : mFun Try.prog 19 3 d_move_run = true := by kernel_rfl
theorem m_noriaref28_Right : mFun Try.prog 20 1 d_noriaref28_Right = true := by kernel_rfl
theorem m_noriaref30_R_do : mFun Try.prog 21 2 d_noriaref30_R_do = true := by kernel_rfl
theorem m_move_each_1 : mFun Try.prog 22 4 d_move_each_1 = true := by kernel_rfl
theorem m_slices_Concat_int64_int64 : mFun Try.prog 23 1 d_slices_Concat_int64_int64 = true := by kernel_rfl
theorem m_vm_Run : mFun Try.prog 24 3 d_vm_Run = true := by kernel_rfl
theorem m_noriaref28_place : mFun Try.prog 25 1 d_noriaref28_place = true := by kernel_rfl
theorem m_noriaref30_R_push : mFun Try.prog 26 2 d_noriaref30_R_push = true := by kernel_rfl
theorem m_noriaref30_R_there : mFun Try.prog 27 3 d_noriaref30_R_there = true := by kernel_rfl
theorem m_noriaref30_R_pop : mFun Try.prog 28 1 d_noriaref30_R_pop = true := by kernel_rfl
theorem m_noriaref30_R_operate : mFun Try.prog 29 2 d_noriaref30_R_operate = true := by kernel_rfl
theorem m_noriaref30_R_place : mFun Try.prog 30 2 d_noriaref30_R_place = true := by kernel_rfl
theorem m_slices_Grow_int64_int64 : mFun Try.prog 31 2 d_slices_Grow_int64_int64 = true := by kernel_rfl
theorem m_vm_machine_run : mFun Try.prog 32 3 d_vm_machine_run = true := by kernel_rfl
theorem m_noriaref07_Un : mFun Try.prog 33 2 d_noriaref07_Un = true := by kernel_rfl
theorem m_noriaref07_Bin : mFun Try.prog 34 3 d_noriaref07_Bin = true := by kernel_rfl
theorem m_vm_machine_do : mFun Try.prog 35 2 d_vm_machine_do = true := by kernel_rfl
theorem m_noriaref07_truth : mFun Try.prog 36 1 d_noriaref07_truth = true := by kernel_rfl
theorem m_noriaref07_number : mFun Try.prog 37 3 d_noriaref07_number = true := by kernel_rfl
theorem m_instr_Right : mFun Try.prog 38 1 d_instr_Right = true := by kernel_rfl
theorem m_vm_machine_push : mFun Try.prog 39 2 d_vm_machine_push = true := by kernel_rfl
theorem m_vm_machine_move : mFun Try.prog 40 2 d_vm_machine_move = true := by kernel_rfl
theorem m_vm_machine_operate : mFun Try.prog 41 2 d_vm_machine_operate = true := by kernel_rfl
theorem m_vm_machine_has : mFun Try.prog 42 2 d_vm_machine_has = true := by kernel_rfl
theorem m_vm_machine_pop : mFun Try.prog 43 1 d_vm_machine_pop = true := by kernel_rfl
theorem m_vm_machine_get : mFun Try.prog 44 2 d_vm_machine_get = true := by kernel_rfl
theorem m_vm_machine_put : mFun Try.prog 45 2 d_vm_machine_put = true := by kernel_rfl
theorem m_noriaref07_quotient : mFun Try.prog 46 2 d_noriaref07_quotient = true := by kernel_rfl
theorem m_instr_of : mFun Try.prog 47 1 d_instr_of = true := by kernel_rfl
theorem m_instr_first : mFun Try.prog 48 1 d_instr_first = true := by kernel_rfl
theorem m_instr_within : mFun Try.prog 49 3 d_instr_within = true := by kernel_rfl
theorem m_vm_machine_there : mFun Try.prog 50 3 d_vm_machine_there = true := by kernel_rfl
theorem m_arith_Un : mFun Try.prog 51 2 d_arith_Un = true := by kernel_rfl
theorem m_arith_Bin : mFun Try.prog 52 3 d_arith_Bin = true := by kernel_rfl
theorem m_noriaref07_size : mFun Try.prog 53 1 d_noriaref07_size = true := by kernel_rfl
theorem m_arith_truth : mFun Try.prog 54 1 d_arith_truth = true := by kernel_rfl
theorem m_arith_group : mFun Try.prog 55 1 d_arith_group = true := by kernel_rfl
theorem m_arith_number : mFun Try.prog 56 3 d_arith_number = true := by kernel_rfl
theorem m_arith_holds : mFun Try.prog 57 3 d_arith_holds = true := by kernel_rfl
theorem m_arith_divided : mFun Try.prog 58 2 d_arith_divided = true := by kernel_rfl
def sqT := (And.intro @Bool.and_false (And.intro @Bool.and_true (And.intro @Bool.false_and (And.intro @Bool.not_false (And.intro @Bool.not_true (And.intro @Bool.true_and (And.intro @Bool.true_eq_false (And.intro @DV.agg.injEq (And.intro @DV.bool.injEq (And.intro @DV.int.injEq (And.intro @DV.str.injEq (And.intro @DV.tup.injEq (And.intro @Int.ofNat_lt (And.intro @Int.toNat_natCast (And.intro @Nat.lt_add_one (And.intro @Nat.one_ne_zero (And.intro @Nat.succ_ne_self (And.intro @Nat.zero_add (And.intro @Nat.zero_lt_one (And.intro @Nat.zero_ne_one (And.intro @Nk.get_nil (And.intro @Only_same (And.intro @Only_set (And.intro @Only_succ (And.intro @Only_zero (And.intro @and_false (And.intro @and_true (And.intro @beq_ft (And.intro @beq_tf (And.intro @bne_ft (And.intro @bne_tf (And.intro @bsl_length (And.intro @decide_eq_false_iff_not (And.intro @decide_eq_true_eq (And.intro @decide_false (And.intro @decide_true (And.intro @dops_nil (And.intro @dops_none (And.intro @endH_normal (And.intro @endH_ret (And.intro @endP_normal (And.intro @endP_ret (And.intro @ev_c (And.intro @ev_t (And.intro @false_and (And.intro @false_implies (And.intro @false_or (And.intro @get_cons (And.intro @hOf_cons (And.intro @not_false_eq_true (And.intro @not_true_eq_false (And.intro @of_h (And.intro @of_p (And.intro @or_false (And.intro @or_self (And.intro @or_true (And.intro @pOf_cons (And.intro @put_none (And.intro @put_some (And.intro @slice_both (And.intro @slice_hi (And.intro @slice_lo (And.intro @spec0_at (And.intro @spec1_at (And.intro @specB1_at (And.intro @specB1_nil (And.intro @specB2_at (And.intro @specB2_nil1 (And.intro @specB2_nil2 (And.intro @specB2_nil3 (And.intro @true_and @true_or)))))))))))))))))))))))))))))))))))))))))))))))))))))))))))))))))))))))
def sqP := (And.intro @dwp_block (And.intro @dwp_exit (And.intro @dwp_ops (And.intro @dwp_opsP (And.intro @dwp_opsS (And.intro @dwp_ret (And.intro @dwp_rsv (And.intro @dwp_seq (And.intro @dwp_skip (And.intro @inBlock_exit (And.intro @inBlock_normal (And.intro @inBlock_ret (And.intro @then_exit (And.intro @then_normal @then_ret))))))))))))))
end Go.Proofs.Ytjgefhgkinocmaa
