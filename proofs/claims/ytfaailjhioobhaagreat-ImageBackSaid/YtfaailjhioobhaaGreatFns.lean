/- The data-level readings are those of the program. -/
import Derived.Test.YtfaailjhioobhaaGreatFnd
import Derived.Test.YtfaailjhioobhaaGreatChecked
set_option linter.all false
namespace Go.Proofs.YtfaailjhioobhaaGreat
open Go.Nk

instance : Inhabited Env := ⟨Env.none⟩

theorem m_norialaw33_ImageBack : mFun Tryz.prog 5 2 d_norialaw33_ImageBack = true := by kernel_rfl
theorem m_noriaref33_Few : mFun Tryz.prog 7 1 d_noriaref33_Few = true := by kernel_rfl
theorem m_norialaw33_live : mFun Tryz.prog 8 0 d_norialaw33_live = true := by kernel_rfl
theorem m_image_Encode : mFun Tryz.prog 9 1 d_image_Encode = true := by kernel_rfl
theorem m_noriaref01_Same : mFun Tryz.prog 11 2 d_noriaref01_Same = true := by kernel_rfl
theorem m_image_Decode : mFun Tryz.prog 12 1 d_image_Decode = true := by kernel_rfl
theorem m_noriaref33_Same : mFun Tryz.prog 14 2 d_noriaref33_Same = true := by kernel_rfl
theorem m_norialaw33_num : mFun Tryz.prog 15 1 d_norialaw33_num = true := by kernel_rfl
theorem m_image_Same : mFun Tryz.prog 16 2 d_image_Same = true := by kernel_rfl
theorem m_noriaref05_Small : mFun Tryz.prog 17 1 d_noriaref05_Small = true := by kernel_rfl
theorem m_reader_New : mFun Tryz.prog 18 0 d_reader_New = true := by kernel_rfl
theorem m_image_section : mFun Tryz.prog 19 2 d_image_section = true := by kernel_rfl
theorem m_reader_Writer_Num : mFun Tryz.prog 20 3 d_reader_Writer_Num = true := by kernel_rfl
theorem m_reader_Writer_Part : mFun Tryz.prog 21 2 d_reader_Writer_Part = true := by kernel_rfl
theorem m_crc_Seal : mFun Tryz.prog 22 1 d_crc_Seal = true := by kernel_rfl
theorem m_slices_Concat_byte_byte : mFun Tryz.prog 23 1 d_slices_Concat_byte_byte = true := by kernel_rfl
theorem m_reader_Writer_Bytes : mFun Tryz.prog 24 1 d_reader_Writer_Bytes = true := by kernel_rfl
theorem m_bytes_HasPrefix : mFun Tryz.prog 33 2 d_bytes_HasPrefix = true := by kernel_rfl
theorem m_crc_Open : mFun Tryz.prog 34 1 d_crc_Open = true := by kernel_rfl
theorem m_image_parts : mFun Tryz.prog 35 1 d_image_parts = true := by kernel_rfl
theorem m_image_take : mFun Tryz.prog 36 1 d_image_take = true := by kernel_rfl
theorem m_noriaref32_Same : mFun Tryz.prog 44 2 d_noriaref32_Same = true := by kernel_rfl
theorem m_slices_Equal_api_Port_api_Port : mFun Tryz.prog 45 2 d_slices_Equal_api_Port_api_Port = true := by kernel_rfl
theorem m_slices_EqualFunc_api_Enum_api_Enum_api_Enum_api_Enum : mFun Tryz.prog 46 3 d_slices_EqualFunc_api_Enum_api_Enum_api_Enum_api_Enum = true := by kernel_rfl
theorem m_image_sameEnum : mFun Tryz.prog 47 2 d_image_sameEnum = true := by kernel_rfl
theorem m_slices_EqualFunc_api_Slot_api_Slot_api_Slot_api_Slot : mFun Tryz.prog 48 3 d_slices_EqualFunc_api_Slot_api_Slot_api_Slot_api_Slot = true := by kernel_rfl
theorem m_image_sameSlot : mFun Tryz.prog 49 2 d_image_sameSlot = true := by kernel_rfl
theorem m_slices_Equal_int_int : mFun Tryz.prog 50 2 d_slices_Equal_int_int = true := by kernel_rfl
theorem m_slices_Equal_api_Instr_api_Instr : mFun Tryz.prog 51 2 d_slices_Equal_api_Instr_api_Instr = true := by kernel_rfl
theorem m_image_writer_enums : mFun Tryz.prog 52 2 d_image_writer_enums = true := by kernel_rfl
theorem m_image_writer_ports : mFun Tryz.prog 53 2 d_image_writer_ports = true := by kernel_rfl
theorem m_image_writer_slots : mFun Tryz.prog 54 2 d_image_writer_slots = true := by kernel_rfl
theorem m_image_writer_locals : mFun Tryz.prog 55 2 d_image_writer_locals = true := by kernel_rfl
theorem m_instr_Put : mFun Tryz.prog 56 1 d_instr_Put = true := by kernel_rfl
theorem m_reader_Writer_Ok : mFun Tryz.prog 57 1 d_reader_Writer_Ok = true := by kernel_rfl
theorem m_reader_state_fail : mFun Tryz.prog 58 1 d_reader_state_fail = true := by kernel_rfl
theorem m_reader_Writer_lay : mFun Tryz.prog 59 2 d_reader_Writer_lay = true := by kernel_rfl
theorem m_octet_Put : mFun Tryz.prog 60 2 d_octet_Put = true := by kernel_rfl
theorem m_crc_tail : mFun Tryz.prog 61 1 d_crc_tail = true := by kernel_rfl
theorem m_crc_Of : mFun Tryz.prog 62 1 d_crc_Of = true := by kernel_rfl
theorem m_slices_Grow_byte_byte : mFun Tryz.prog 63 2 d_slices_Grow_byte_byte = true := by kernel_rfl
theorem m_slices_Clone_byte_byte : mFun Tryz.prog 64 1 d_slices_Clone_byte_byte = true := by kernel_rfl
theorem m_bytes_Equal : mFun Tryz.prog 74 2 d_bytes_Equal = true := by kernel_rfl
theorem m_reader_From : mFun Tryz.prog 75 1 d_reader_From = true := by kernel_rfl
theorem m_reader_Reader_Num : mFun Tryz.prog 76 2 d_reader_Reader_Num = true := by kernel_rfl
theorem m_reader_Reader_Part : mFun Tryz.prog 77 1 d_reader_Reader_Part = true := by kernel_rfl
theorem m_reader_Reader_Ok : mFun Tryz.prog 78 1 d_reader_Reader_Ok = true := by kernel_rfl
theorem m_reader_Reader_More : mFun Tryz.prog 79 1 d_reader_Reader_More = true := by kernel_rfl
theorem m_image_some_api_Enum : mFun Tryz.prog 80 3 d_image_some_api_Enum = true := by kernel_rfl
theorem m_image_taker_enum : mFun Tryz.prog 81 1 d_image_taker_enum = true := by kernel_rfl
theorem m_image_some_api_Port : mFun Tryz.prog 82 3 d_image_some_api_Port = true := by kernel_rfl
theorem m_image_taker_port : mFun Tryz.prog 83 1 d_image_taker_port = true := by kernel_rfl
theorem m_image_some_api_Slot : mFun Tryz.prog 84 3 d_image_some_api_Slot = true := by kernel_rfl
theorem m_image_taker_slot : mFun Tryz.prog 85 1 d_image_taker_slot = true := by kernel_rfl
theorem m_image_some_int : mFun Tryz.prog 86 3 d_image_some_int = true := by kernel_rfl
theorem m_image_taker_kind : mFun Tryz.prog 87 1 d_image_taker_kind = true := by kernel_rfl
theorem m_ty_Cells : mFun Tryz.prog 88 1 d_ty_Cells = true := by kernel_rfl
theorem m_instr_Get : mFun Tryz.prog 89 1 d_instr_Get = true := by kernel_rfl
theorem m_noriaref05_Same : mFun Tryz.prog 98 2 d_noriaref05_Same = true := by kernel_rfl
theorem m_noriaref20_Same : mFun Tryz.prog 99 2 d_noriaref20_Same = true := by kernel_rfl
theorem m_noriaref27_Same : mFun Tryz.prog 100 2 d_noriaref27_Same = true := by kernel_rfl
theorem m_noriaref32_SameInts : mFun Tryz.prog 101 2 d_noriaref32_SameInts = true := by kernel_rfl
theorem m_noriaref28_Same : mFun Tryz.prog 102 2 d_noriaref28_Same = true := by kernel_rfl
theorem m_slices_Equal_string_string : mFun Tryz.prog 103 2 d_slices_Equal_string_string = true := by kernel_rfl
theorem m_slices_Equal_int64_int64 : mFun Tryz.prog 104 2 d_slices_Equal_int64_int64 = true := by kernel_rfl
theorem m_reader_Writer_Text : mFun Tryz.prog 105 2 d_reader_Writer_Text = true := by kernel_rfl
theorem m_image_writer_ty : mFun Tryz.prog 106 2 d_image_writer_ty = true := by kernel_rfl
theorem m_reader_Writer_Int : mFun Tryz.prog 107 2 d_reader_Writer_Int = true := by kernel_rfl
theorem m_instr_Right : mFun Tryz.prog 108 1 d_instr_Right = true := by kernel_rfl
theorem m_instr_out_instr : mFun Tryz.prog 109 2 d_instr_out_instr = true := by kernel_rfl
theorem m_crc_New : mFun Tryz.prog 110 0 d_crc_New = true := by kernel_rfl
theorem m_crc_Sum_Add : mFun Tryz.prog 111 2 d_crc_Sum_Add = true := by kernel_rfl
theorem m_crc_Sum_Value : mFun Tryz.prog 112 1 d_crc_Sum_Value = true := by kernel_rfl
theorem m_octet_Get : mFun Tryz.prog 115 1 d_octet_Get = true := by kernel_rfl
theorem m_reader_Reader_next : mFun Tryz.prog 116 2 d_reader_Reader_next = true := by kernel_rfl
theorem m_reader_Reader_Text : mFun Tryz.prog 117 1 d_reader_Reader_Text = true := by kernel_rfl
theorem m_image_some_string : mFun Tryz.prog 118 3 d_image_some_string = true := by kernel_rfl
theorem m_image_taker_ty : mFun Tryz.prog 119 1 d_image_taker_ty = true := by kernel_rfl
theorem m_image_some_int64 : mFun Tryz.prog 120 3 d_image_some_int64 = true := by kernel_rfl
theorem m_reader_Reader_Int : mFun Tryz.prog 121 1 d_reader_Reader_Int = true := by kernel_rfl
theorem m_instr_in_instr : mFun Tryz.prog 122 1 d_instr_in_instr = true := by kernel_rfl
theorem m_noriaref01_Names : mFun Tryz.prog 126 2 d_noriaref01_Names = true := by kernel_rfl
theorem m_noriaref01_Vals : mFun Tryz.prog 127 2 d_noriaref01_Vals = true := by kernel_rfl
theorem m_octet_Int : mFun Tryz.prog 128 1 d_octet_Int = true := by kernel_rfl
theorem m_instr_of : mFun Tryz.prog 129 1 d_instr_of = true := by kernel_rfl
theorem m_instr_first : mFun Tryz.prog 130 1 d_instr_first = true := by kernel_rfl
theorem m_instr_within : mFun Tryz.prog 131 3 d_instr_within = true := by kernel_rfl
theorem m_crc_Sum_fill : mFun Tryz.prog 133 1 d_crc_Sum_fill = true := by kernel_rfl
theorem m_octet_Back : mFun Tryz.prog 134 1 d_octet_Back = true := by kernel_rfl
theorem m_octet_idle : mFun Tryz.prog 135 1 d_octet_idle = true := by kernel_rfl
def sqT := (And.intro @Bool.and_false (And.intro @Bool.and_true (And.intro @Bool.false_and (And.intro @Bool.not_false (And.intro @Bool.not_true (And.intro @Bool.true_and (And.intro @Bool.true_eq_false (And.intro @Int.ofNat_lt (And.intro @Int.toNat_natCast (And.intro @Nat.lt_add_one (And.intro @Nat.one_ne_zero (And.intro @Nat.succ_ne_self (And.intro @Nat.zero_add (And.intro @Nat.zero_lt_one (And.intro @Nat.zero_ne_one (And.intro @Nk.get_nil (And.intro @and_true (And.intro @bsl_length (And.intro @decide_eq_false_iff_not (And.intro @decide_eq_true_eq (And.intro @decide_false (And.intro @decide_true (And.intro @dops_nil (And.intro @dops_none (And.intro @endH_normal (And.intro @endH_ret (And.intro @endP_normal (And.intro @endP_ret (And.intro @ev_c (And.intro @ev_t (And.intro @false_implies (And.intro @false_or (And.intro @get_cons (And.intro @hOf_cons (And.intro @not_false_eq_true (And.intro @not_true_eq_false (And.intro @of_h (And.intro @of_p (And.intro @or_false (And.intro @or_self (And.intro @or_true (And.intro @pOf_cons (And.intro @put_none (And.intro @put_some (And.intro @slice_both (And.intro @slice_hi (And.intro @slice_lo (And.intro @specB1_at (And.intro @specB2_at (And.intro @true_and @true_or))))))))))))))))))))))))))))))))))))))))))))))))))
def sqP := (And.intro @dwp_block (And.intro @dwp_exit (And.intro @dwp_ops (And.intro @dwp_ret (And.intro @dwp_seq (And.intro @dwp_skip (And.intro @inBlock_exit (And.intro @inBlock_normal (And.intro @inBlock_ret (And.intro @then_exit (And.intro @then_normal @then_ret)))))))))))
end Go.Proofs.YtfaailjhioobhaaGreat
