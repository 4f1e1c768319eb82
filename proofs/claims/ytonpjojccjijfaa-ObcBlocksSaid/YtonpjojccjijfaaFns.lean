/- The data-level readings are those of the program. -/
import Derived.Test.YtonpjojccjijfaaFnd
import Derived.Test.YtonpjojccjijfaaChecked
set_option linter.all false
namespace Go.Proofs.Ytonpjojccjijfaa
open Go.Nk

instance : Inhabited Env := ⟨Env.none⟩

theorem m_norialaw25_ObcBlocks : mFun Try.prog 4 1 d_norialaw25_ObcBlocks = true := by kernel_rfl
theorem m_norialaw25_live : mFun Try.prog 5 0 d_norialaw25_live = true := by kernel_rfl
theorem m_noriaref22_Few : mFun Try.prog 6 1 d_noriaref22_Few = true := by kernel_rfl
theorem m_obc_Class : mFun Try.prog 10 1 d_obc_Class = true := by kernel_rfl
theorem m_noriaref25_Class : mFun Try.prog 11 1 d_noriaref25_Class = true := by kernel_rfl
theorem m_noriaref25_Blocks : mFun Try.prog 12 1 d_noriaref25_Blocks = true := by kernel_rfl
theorem m_noriaref25_SameBlocks : mFun Try.prog 13 2 d_noriaref25_SameBlocks = true := by kernel_rfl
theorem m_obc_Blocks : mFun Try.prog 14 1 d_obc_Blocks = true := by kernel_rfl
theorem m_noriaref25_Stmts : mFun Try.prog 15 2 d_noriaref25_Stmts = true := by kernel_rfl
theorem m_obc_Flat : mFun Try.prog 16 1 d_obc_Flat = true := by kernel_rfl
theorem m_noriaref25_Flat : mFun Try.prog 17 1 d_noriaref25_Flat = true := by kernel_rfl
theorem m_noriaref22_few : mFun Try.prog 18 1 d_noriaref22_few = true := by kernel_rfl
theorem m_obc_kind : mFun Try.prog 20 1 d_obc_kind = true := by kernel_rfl
theorem m_noriaref17_Same : mFun Try.prog 21 2 d_noriaref17_Same = true := by kernel_rfl
theorem m_obc_groups_api_Stmt : mFun Try.prog 22 2 d_obc_groups_api_Stmt = true := by kernel_rfl
theorem m_obc_together : mFun Try.prog 23 2 d_obc_together = true := by kernel_rfl
theorem m_obc_bare : mFun Try.prog 24 2 d_obc_bare = true := by kernel_rfl
theorem m_noriaref21_SamePlain : mFun Try.prog 25 2 d_noriaref21_SamePlain = true := by kernel_rfl
theorem m_slices_Equal_api_Cond_api_Cond : mFun Try.prog 27 2 d_slices_Equal_api_Cond_api_Cond = true := by kernel_rfl
theorem m_slices_Clone_api_Stmt_api_Stmt : mFun Try.prog 28 1 d_slices_Clone_api_Stmt_api_Stmt = true := by kernel_rfl
theorem m_noriaref01_Names : mFun Try.prog 29 2 d_noriaref01_Names = true := by kernel_rfl
theorem m_noriaref21_SameAtoms : mFun Try.prog 30 2 d_noriaref21_SameAtoms = true := by kernel_rfl
theorem m_noriaref01_Vals : mFun Try.prog 31 2 d_noriaref01_Vals = true := by kernel_rfl
def sqT := (And.intro @Bool.and_false (And.intro @Bool.and_true (And.intro @Bool.false_and (And.intro @Bool.not_false (And.intro @Bool.not_true (And.intro @Bool.true_and (And.intro @Bool.true_eq_false (And.intro @DV.agg.injEq (And.intro @DV.bool.injEq (And.intro @DV.int.injEq (And.intro @DV.str.injEq (And.intro @DV.tup.injEq (And.intro @Int.ofNat_lt (And.intro @Int.toNat_natCast (And.intro @Nat.lt_add_one (And.intro @Nat.one_ne_zero (And.intro @Nat.succ_ne_self (And.intro @Nat.zero_add (And.intro @Nat.zero_lt_one (And.intro @Nat.zero_ne_one (And.intro @Nk.get_nil (And.intro @Only_same (And.intro @Only_set (And.intro @Only_succ (And.intro @Only_zero (And.intro @and_false (And.intro @and_true (And.intro @beq_ft (And.intro @beq_tf (And.intro @bne_ft (And.intro @bne_tf (And.intro @bsl_length (And.intro @decide_eq_false_iff_not (And.intro @decide_eq_true_eq (And.intro @decide_false (And.intro @decide_true (And.intro @dops_nil (And.intro @dops_none (And.intro @endH_normal (And.intro @endH_ret (And.intro @endP_normal (And.intro @endP_ret (And.intro @ev_c (And.intro @ev_t (And.intro @false_and (And.intro @false_implies (And.intro @false_or (And.intro @get_cons (And.intro @hOf_cons (And.intro @not_false_eq_true (And.intro @not_true_eq_false (And.intro @of_h (And.intro @of_p (And.intro @or_false (And.intro @or_self (And.intro @or_true (And.intro @pOf_cons (And.intro @put_none (And.intro @put_some (And.intro @slice_both (And.intro @slice_hi (And.intro @slice_lo (And.intro @spec0_at (And.intro @spec1_at (And.intro @specB1_at (And.intro @specB1_nil (And.intro @specB2_at (And.intro @specB2_nil1 (And.intro @specB2_nil2 (And.intro @specB2_nil3 (And.intro @true_and @true_or)))))))))))))))))))))))))))))))))))))))))))))))))))))))))))))))))))))))
def sqP := (And.intro @dwp_block (And.intro @dwp_exit (And.intro @dwp_ops (And.intro @dwp_opsP (And.intro @dwp_opsS (And.intro @dwp_ret (And.intro @dwp_seq (And.intro @dwp_skip (And.intro @inBlock_exit (And.intro @inBlock_normal (And.intro @inBlock_ret (And.intro @then_exit (And.intro @then_normal @then_ret)))))))))))))
end Go.Proofs.Ytonpjojccjijfaa
