/- The data-level readings are those of the program. -/
import Derived.Test.YtnbmpdhgejppaaaDoorFnd
import Derived.Test.YtnbmpdhgejppaaaDoorChecked
set_option linter.all false
namespace Go.Proofs.YtnbmpdhgejppaaaDoor
open Go.Nk

instance : Inhabited Env := ⟨Env.tab Tryd.prog "internal/strconv.uint64pow10" .u64 ((List.range 20).map fun i => ((10 ^ i : Nat) : Int))⟩

theorem m_norialaw28_InstrPuts : mFun Tryd.prog 3 1 d_norialaw28_InstrPuts = true := by kernel_rfl
theorem m_norialaw28_InstrApart : mFun Tryd.prog 4 2 d_norialaw28_InstrApart = true := by kernel_rfl
theorem m_norialaw28_InstrGets : mFun Tryd.prog 5 1 d_norialaw28_InstrGets = true := by kernel_rfl
theorem m_norialaw28_InstrBack : mFun Tryd.prog 6 2 d_norialaw28_InstrBack = true := by kernel_rfl
theorem m_norialaw28_live : mFun Tryd.prog 7 0 d_norialaw28_live = true := by kernel_rfl
theorem m_instr_Right : mFun Tryd.prog 8 1 d_instr_Right = true := by kernel_rfl
theorem m_noriaref28_Right : mFun Tryd.prog 9 1 d_noriaref28_Right = true := by kernel_rfl
theorem m_instr_Text : mFun Tryd.prog 10 1 d_instr_Text = true := by kernel_rfl
theorem m_noriaref28_Text : mFun Tryd.prog 11 1 d_noriaref28_Text = true := by kernel_rfl
theorem m_instr_Put : mFun Tryd.prog 12 1 d_instr_Put = true := by kernel_rfl
theorem m_noriaref28_Put : mFun Tryd.prog 13 1 d_noriaref28_Put = true := by kernel_rfl
theorem m_noriaref01_Same : mFun Tryd.prog 14 2 d_noriaref01_Same = true := by kernel_rfl
theorem m_instr_Get : mFun Tryd.prog 15 1 d_instr_Get = true := by kernel_rfl
theorem m_noriaref28_Get : mFun Tryd.prog 16 1 d_noriaref28_Get = true := by kernel_rfl
theorem m_noriaref28_Same : mFun Tryd.prog 17 2 d_noriaref28_Same = true := by kernel_rfl
theorem m_instr_of : mFun Tryd.prog 18 1 d_instr_of = true := by kernel_rfl
theorem m_instr_first : mFun Tryd.prog 19 1 d_instr_first = true := by kernel_rfl
theorem m_instr_within : mFun Tryd.prog 20 3 d_instr_within = true := by kernel_rfl
theorem m_noriaref28_place : mFun Tryd.prog 21 1 d_noriaref28_place = true := by kernel_rfl
theorem m_arith_Sign : mFun Tryd.prog 23 1 d_arith_Sign = true := by kernel_rfl
theorem m_noriaref06_Digits : mFun Tryd.prog 26 1 d_noriaref06_Digits = true := by kernel_rfl
theorem m_noriaref07_Sign : mFun Tryd.prog 27 1 d_noriaref07_Sign = true := by kernel_rfl
theorem m_reader_New : mFun Tryd.prog 28 0 d_reader_New = true := by kernel_rfl
theorem m_instr_out_instr : mFun Tryd.prog 29 2 d_instr_out_instr = true := by kernel_rfl
theorem m_reader_Writer_Bytes : mFun Tryd.prog 30 1 d_reader_Writer_Bytes = true := by kernel_rfl
theorem m_noriaref03_W_Num : mFun Tryd.prog 31 3 d_noriaref03_W_Num = true := by kernel_rfl
theorem m_noriaref03_W_Int : mFun Tryd.prog 32 2 d_noriaref03_W_Int = true := by kernel_rfl
theorem m_reader_From : mFun Tryd.prog 33 1 d_reader_From = true := by kernel_rfl
theorem m_reader_Reader_More : mFun Tryd.prog 34 1 d_reader_Reader_More = true := by kernel_rfl
theorem m_instr_in_instr : mFun Tryd.prog 35 1 d_instr_in_instr = true := by kernel_rfl
theorem m_reader_Reader_Ok : mFun Tryd.prog 36 1 d_reader_Reader_Ok = true := by kernel_rfl
theorem m_noriaref03_From : mFun Tryd.prog 37 1 d_noriaref03_From = true := by kernel_rfl
theorem m_noriaref03_R_More : mFun Tryd.prog 38 1 d_noriaref03_R_More = true := by kernel_rfl
theorem m_noriaref28_one : mFun Tryd.prog 39 1 d_noriaref28_one = true := by kernel_rfl
theorem m_arith_compare : mFun Tryd.prog 41 1 d_arith_compare = true := by kernel_rfl
theorem m_reader_Writer_Num : mFun Tryd.prog 46 3 d_reader_Writer_Num = true := by kernel_rfl
theorem m_reader_Writer_Int : mFun Tryd.prog 47 2 d_reader_Writer_Int = true := by kernel_rfl
theorem m_reader_Writer_Ok : mFun Tryd.prog 48 1 d_reader_Writer_Ok = true := by kernel_rfl
theorem m_slices_Clone_byte_byte : mFun Tryd.prog 49 1 d_slices_Clone_byte_byte = true := by kernel_rfl
theorem m_noriaref01_Put : mFun Tryd.prog 50 2 d_noriaref01_Put = true := by kernel_rfl
theorem m_noriaref01_Int : mFun Tryd.prog 51 1 d_noriaref01_Int = true := by kernel_rfl
theorem m_noriaref03_W_bytes : mFun Tryd.prog 52 2 d_noriaref03_W_bytes = true := by kernel_rfl
theorem m_reader_Reader_Num : mFun Tryd.prog 53 2 d_reader_Reader_Num = true := by kernel_rfl
theorem m_reader_Reader_Int : mFun Tryd.prog 54 1 d_reader_Reader_Int = true := by kernel_rfl
theorem m_noriaref03_R_Num : mFun Tryd.prog 55 2 d_noriaref03_R_Num = true := by kernel_rfl
theorem m_noriaref03_R_Int : mFun Tryd.prog 56 1 d_noriaref03_R_Int = true := by kernel_rfl
theorem m_reader_state_fail : mFun Tryd.prog 63 1 d_reader_state_fail = true := by kernel_rfl
theorem m_reader_Writer_lay : mFun Tryd.prog 64 2 d_reader_Writer_lay = true := by kernel_rfl
theorem m_octet_Put : mFun Tryd.prog 65 2 d_octet_Put = true := by kernel_rfl
theorem m_octet_Int : mFun Tryd.prog 66 1 d_octet_Int = true := by kernel_rfl
theorem m_octet_Get : mFun Tryd.prog 67 1 d_octet_Get = true := by kernel_rfl
theorem m_reader_Reader_next : mFun Tryd.prog 68 2 d_reader_Reader_next = true := by kernel_rfl
theorem m_octet_Back : mFun Tryd.prog 69 1 d_octet_Back = true := by kernel_rfl
theorem m_noriaref01_Get : mFun Tryd.prog 70 1 d_noriaref01_Get = true := by kernel_rfl
theorem m_noriaref03_R_take : mFun Tryd.prog 71 2 d_noriaref03_R_take = true := by kernel_rfl
theorem m_noriaref01_Back : mFun Tryd.prog 72 1 d_noriaref01_Back = true := by kernel_rfl
theorem m_octet_idle : mFun Tryd.prog 80 1 d_octet_idle = true := by kernel_rfl
def sqT := (And.intro @Bool.and_false (And.intro @Bool.and_true (And.intro @Bool.false_and (And.intro @Bool.not_false (And.intro @Bool.not_true (And.intro @Bool.true_and (And.intro @Bool.true_eq_false (And.intro @Int.ofNat_lt (And.intro @Int.toNat_natCast (And.intro @Nat.lt_add_one (And.intro @Nat.one_ne_zero (And.intro @Nat.succ_ne_self (And.intro @Nat.zero_add (And.intro @Nat.zero_lt_one (And.intro @Nat.zero_ne_one (And.intro @Nk.get_nil (And.intro @and_true (And.intro @bsl_length (And.intro @decide_eq_false_iff_not (And.intro @decide_eq_true_eq (And.intro @decide_false (And.intro @decide_true (And.intro @dops_nil (And.intro @dops_none (And.intro @endH_normal (And.intro @endH_ret (And.intro @endP_normal (And.intro @endP_ret (And.intro @ev_c (And.intro @ev_t (And.intro @false_implies (And.intro @false_or (And.intro @get_cons (And.intro @hOf_cons (And.intro @not_false_eq_true (And.intro @not_true_eq_false (And.intro @of_h (And.intro @of_p (And.intro @or_false (And.intro @or_self (And.intro @or_true (And.intro @pOf_cons (And.intro @put_none (And.intro @put_some (And.intro @slice_both (And.intro @slice_hi (And.intro @slice_lo (And.intro @specB1_at (And.intro @specB2_at (And.intro @true_and @true_or))))))))))))))))))))))))))))))))))))))))))))))))))
def sqP := (And.intro @dwp_block (And.intro @dwp_exit (And.intro @dwp_ops (And.intro @dwp_ret (And.intro @dwp_seq (And.intro @dwp_skip (And.intro @inBlock_exit (And.intro @inBlock_normal (And.intro @inBlock_ret (And.intro @then_exit (And.intro @then_normal @then_ret)))))))))))
end Go.Proofs.YtnbmpdhgejppaaaDoor
