/- The data-level readings are those of the program. -/
import Derived.Test.YtpohoagllmocnaaFnd
import Derived.Test.YtpohoagllmocnaaChecked
set_option linter.unusedSimpArgs false
set_option linter.unusedVariables false
namespace Go.Proofs.Ytpohoagllmocnaa
open Go.Nk

theorem m_norialaw03_ReaderReads : mFun Try.prog 3 2 d_norialaw03_ReaderReads = true := by kernel_rfl
theorem m_norialaw03_ReaderWrites : mFun Try.prog 4 1 d_norialaw03_ReaderWrites = true := by kernel_rfl
theorem m_norialaw03_ReaderBack : mFun Try.prog 5 1 d_norialaw03_ReaderBack = true := by kernel_rfl
theorem m_norialaw03_live : mFun Try.prog 6 0 d_norialaw03_live = true := by kernel_rfl
theorem m_reader_From : mFun Try.prog 7 1 d_reader_From = true := by kernel_rfl
theorem m_noriaref03_From : mFun Try.prog 8 1 d_noriaref03_From = true := by kernel_rfl
theorem m_reader_Reader_Num : mFun Try.prog 9 2 d_reader_Reader_Num = true := by kernel_rfl
theorem m_noriaref03_R_Num : mFun Try.prog 10 2 d_noriaref03_R_Num = true := by kernel_rfl
theorem m_reader_Reader_Int : mFun Try.prog 11 1 d_reader_Reader_Int = true := by kernel_rfl
theorem m_noriaref03_R_Int : mFun Try.prog 12 1 d_noriaref03_R_Int = true := by kernel_rfl
theorem m_reader_Reader_Text : mFun Try.prog 13 1 d_reader_Reader_Text = true := by kernel_rfl
theorem m_noriaref03_R_Text : mFun Try.prog 14 1 d_noriaref03_R_Text = true := by kernel_rfl
theorem m_noriaref01_Same : mFun Try.prog 15 2 d_noriaref01_Same = true := by kernel_rfl
theorem m_reader_Reader_Part : mFun Try.prog 16 1 d_reader_Reader_Part = true := by kernel_rfl
theorem m_noriaref03_R_Part : mFun Try.prog 17 1 d_noriaref03_R_Part = true := by kernel_rfl
theorem m_reader_Reader_Ok : mFun Try.prog 18 1 d_reader_Reader_Ok = true := by kernel_rfl
theorem m_reader_Reader_At : mFun Try.prog 19 1 d_reader_Reader_At = true := by kernel_rfl
theorem m_reader_Reader_More : mFun Try.prog 20 1 d_reader_Reader_More = true := by kernel_rfl
theorem m_noriaref03_R_More : mFun Try.prog 21 1 d_noriaref03_R_More = true := by kernel_rfl
theorem m_reader_New : mFun Try.prog 22 0 d_reader_New = true := by kernel_rfl
theorem m_reader_Writer_Num : mFun Try.prog 23 3 d_reader_Writer_Num = true := by kernel_rfl
theorem m_noriaref03_W_Num : mFun Try.prog 24 3 d_noriaref03_W_Num = true := by kernel_rfl
theorem m_reader_Writer_Int : mFun Try.prog 25 2 d_reader_Writer_Int = true := by kernel_rfl
theorem m_noriaref03_W_Int : mFun Try.prog 26 2 d_noriaref03_W_Int = true := by kernel_rfl
theorem m_reader_Writer_Text : mFun Try.prog 27 2 d_reader_Writer_Text = true := by kernel_rfl
theorem m_noriaref03_W_Text : mFun Try.prog 28 2 d_noriaref03_W_Text = true := by kernel_rfl
theorem m_reader_Writer_Part : mFun Try.prog 29 2 d_reader_Writer_Part = true := by kernel_rfl
theorem m_noriaref03_W_Part : mFun Try.prog 30 2 d_noriaref03_W_Part = true := by kernel_rfl
theorem m_reader_Writer_Ok : mFun Try.prog 31 1 d_reader_Writer_Ok = true := by kernel_rfl
theorem m_reader_Writer_Bytes : mFun Try.prog 32 1 d_reader_Writer_Bytes = true := by kernel_rfl
theorem m_slices_Clone_byte_byte : mFun Try.prog 33 1 d_slices_Clone_byte_byte = true := by kernel_rfl
theorem m_octet_Get : mFun Try.prog 34 1 d_octet_Get = true := by kernel_rfl
theorem m_reader_Reader_next : mFun Try.prog 35 2 d_reader_Reader_next = true := by kernel_rfl
theorem m_noriaref01_Get : mFun Try.prog 36 1 d_noriaref01_Get = true := by kernel_rfl
theorem m_noriaref03_R_take : mFun Try.prog 37 2 d_noriaref03_R_take = true := by kernel_rfl
theorem m_octet_Back : mFun Try.prog 38 1 d_octet_Back = true := by kernel_rfl
theorem m_noriaref01_Back : mFun Try.prog 39 1 d_noriaref01_Back = true := by kernel_rfl
theorem m_reader_state_fail : mFun Try.prog 40 1 d_reader_state_fail = true := by kernel_rfl
theorem m_reader_Writer_lay : mFun Try.prog 41 2 d_reader_Writer_lay = true := by kernel_rfl
theorem m_octet_Put : mFun Try.prog 42 2 d_octet_Put = true := by kernel_rfl
theorem m_noriaref01_Put : mFun Try.prog 43 2 d_noriaref01_Put = true := by kernel_rfl
theorem m_octet_Int : mFun Try.prog 44 1 d_octet_Int = true := by kernel_rfl
theorem m_noriaref01_Int : mFun Try.prog 45 1 d_noriaref01_Int = true := by kernel_rfl
theorem m_noriaref03_W_bytes : mFun Try.prog 46 2 d_noriaref03_W_bytes = true := by kernel_rfl
theorem m_octet_idle : mFun Try.prog 47 1 d_octet_idle = true := by kernel_rfl
end Go.Proofs.Ytpohoagllmocnaa
