/- The operators: what each function tells. -/
import Derived.Test.YtjgefhgkinocmaaGreatFns
set_option linter.all false
set_option maxRecDepth 20000
namespace Go.Proofs.YtjgefhgkinocmaaGreat
open Go.Nk

def tr (b : Bool) : Int := if b then 1 else 0
def in64 (x : Int) : Prop := -9223372036854775808 ≤ x ∧ x < 9223372036854775808

theorem w64_in (x : Int) : in64 (IntKind.i64.wrap x) := by unfold in64; rw [IntKind.wrap_i64]; omega
/-! truth -/
def fTruth (b : Bool) : Prop × DV := (True, .int .i64 (tr b))
noncomputable def s_truth : List DV → Prop × DV := spec1 eB fTruth
theorem s_truth_at (b : Bool) : s_truth [.bool b] = fTruth b := spec1_at inj_B _ _
theorem ok_arith_truth : OkP Tryz.prog 149 s_truth := by
  refine OkP.mk1 (ps := []) (hs := []) trivial trivial m_arith_truth fun b _ => ?_
  cases b <;> simp only [d_arith_truth, eB, ↓dwp_skip, ↓dwp_ops, ↓dwp_seq, ↓dwp_ret, ↓dwp_cond, dvalX, dops_nil, dops_none, ↓then_normal, ↓then_ret, put_some, ev_t, ev_c, endP_ret, dval, get_cons, ↓reduceIte, and_true, retV, DR.val, fzT, fzV, fz1, DV.immB, Bool.false_eq_true, reduceCtorEq, fTruth, tr]
/-! Un -/
def unF (op a : Int) : Int × Int := if op = 1 then (IntKind.i64.wrap (0 - a), 0) else if op = 2 then (tr (a == 0), 0) else (0, 1)
def fUn (op a : Int) : Prop × DV := (True, .tup [.int .i64 (unF op a).1, .int .i64 (unF op a).2])
noncomputable def s_Un : List DV → Prop × DV := spec2 eI eI fUn
theorem s_Un_at (op a : Int) : s_Un [.int .i64 op, .int .i64 a] = fUn op a := spec2_at inj_I inj_I _ _ _
theorem ok_arith_Un : OkP Tryz.prog 147 s_Un := by
  refine OkP.mk2 (ps := [(149, s_truth)]) (hs := []) ⟨ok_arith_truth, trivial⟩ trivial m_arith_Un fun op a _ => ?_
  by_cases h1 : op = 1
  · subst h1
    simp only [d_arith_Un, eI, ↓dwp_ops, ↓dwp_seq, ↓dwp_block, ↓dwp_ret, ↓dwp_cond, dvalX, dops_nil, dops_none, ↓then_normal, ↓then_ret, ↓inBlock_ret, put_some, ev_t, ev_c, endP_ret, dval, get_cons, Nat.reduceEqDiff, ↓reduceIte, Nat.succ_ne_self, and_true, dBin, dInt, dUn, retV, retL, DR.val, fzT, fzVs, fzV, fz1, DV.immB, reduceCtorEq, IntKind.wrap_i64, beq_self_eq_true, fUn, unF]
  by_cases h2 : op = 2
  · have e1 : (op == 1) = false := by simp [h1]
    subst h2
    simp only [d_arith_Un, eI, ↓dwp_ops, ↓dwp_seq, ↓dwp_block, ↓dwp_ret, ↓dwp_cond, dvalX, dops_nil, dops_none, ↓then_normal, ↓then_ret, ↓inBlock_ret, put_some, ev_t, ev_c, endP_ret, dval, get_cons, Nat.reduceEqDiff, ↓reduceIte, Nat.succ_ne_self, and_true, dBin, dInt, retV, retL, DR.val, fzT, fzVs, fzV, fz1, DV.immB, List.map_cons, List.map_nil, Bool.false_eq_true, reduceCtorEq, dCallP, viewVs, viewV, view1, noMemV, noMem, of_p, pOf_cons, beq_self_eq_true, Int.reduceBEq, Int.reduceEq, fUn, unF, s_truth_at, fTruth]
  · have e1 : (op == 1) = false := by simp [h1]
    have e2 : (op == 2) = false := by simp [h2]
    simp only [d_arith_Un, eI, ↓dwp_skip, ↓dwp_ops, ↓dwp_seq, ↓dwp_block, ↓dwp_ret, ↓dwp_cond, dvalX, dops_nil, dops_none, ↓then_normal, ↓inBlock_normal, put_some, ev_t, ev_c, endP_ret, dval, get_cons, Nat.reduceEqDiff, ↓reduceIte, and_true, dBin, dInt, retV, retL, DR.val, fzT, fzVs, fzV, fz1, DV.immB, Bool.false_eq_true, reduceCtorEq, e1, e2, fUn, unF, h1, h2]
/-! the quotient -/
def fDivided (a b : Int) : Prop × DV := (in64 a ∧ in64 b ∧ b ≠ 0, .tup [.int .i64 (IntKind.i64.wrap (a.tdiv b)), .int .i64 (a.tmod b)])
noncomputable def s_divided : List DV → Prop × DV := spec2 eI eI fDivided
theorem s_divided_at (a b : Int) : s_divided [.int .i64 a, .int .i64 b] = fDivided a b := spec2_at inj_I inj_I _ _ _
theorem ok_arith_divided : OkP Tryz.prog 152 s_divided := by
  refine OkP.mk2 (ps := []) (hs := []) trivial trivial m_arith_divided fun a b h => ?_
  obtain ⟨ha, hb, h0⟩ := h
  by_cases h1 : b = -1
  · have e1 : (b == -1) = true := by simp [h1]
    simp only [d_arith_divided, eI, ↓dwp_ops, ↓dwp_seq, ↓dwp_ret, ↓dwp_cond, dvalX, dops_nil, dops_none, ↓then_normal, ↓then_ret, put_some, ev_t, ev_c, endP_ret, dval, get_cons, Nat.reduceEqDiff, ↓reduceIte, Nat.succ_ne_self, true_and, and_true, dBin, dInt, dUn, retV, retL, DR.val, fzT, fzVs, fzV, fz1, DV.immB, reduceCtorEq, IntKind.wrap_i64, not_false_eq_true, beq_self_eq_true, Int.reduceNeg, ne_eq, DV.tup.injEq, DV.int.injEq, List.cons.injEq, fDivided, h1]
    simp [Int.tdiv_neg, Int.tmod_neg]
  · have e1 : (b == -1) = false := by simp [h1]
    simp only [d_arith_divided, eI, ↓dwp_skip, ↓dwp_ops, ↓dwp_seq, ↓dwp_ret, ↓dwp_cond, dvalX, dops_nil, dops_none, ↓then_normal, put_some, ev_t, ev_c, endP_ret, dval, get_cons, Nat.reduceEqDiff, ↓reduceIte, Nat.succ_ne_self, and_true, dBin, dInt, retV, retL, DR.val, fzT, fzVs, fzV, fz1, DV.immB, Bool.false_eq_true, reduceCtorEq, IntKind.wrap_i64, not_false_eq_true, Int.reduceNeg, ne_eq, e1, fDivided, h0, ne_eq]

/-! numbers -/
def numF (op a b : Int) : Int × Int :=
  if op = 3 then (IntKind.i64.wrap (a + b), 0) else if op = 4 then (IntKind.i64.wrap (a - b), 0) else if op = 5 then (IntKind.i64.wrap (a * b), 0) else
  if b = 0 then (0, 15) else if op = 6 then (IntKind.i64.wrap (a.tdiv b), 0) else (a.tmod b, 0)
def fNumber (op a b : Int) : Prop × DV := (in64 a ∧ in64 b, .tup [.int .i64 (numF op a b).1, .int .i64 (numF op a b).2])
noncomputable def s_number : List DV → Prop × DV := spec3 eI eI eI fNumber
theorem s_number_at (op a b : Int) : s_number [.int .i64 op, .int .i64 a, .int .i64 b] = fNumber op a b := spec3_at inj_I inj_I inj_I _ _ _ _

theorem tmod_in {a b : Int} (h : in64 a) (hb : in64 b) (h0 : b ≠ 0) : in64 (a.tmod b) := by
  unfold in64 at *
  have h1 : (a.tmod b).natAbs < b.natAbs := by
    rw [Int.natAbs_tmod]
    exact Nat.mod_lt _ (by omega)
  omega

theorem ok_arith_number : OkP Tryz.prog 150 s_number := by
  refine OkP.mk3 (ps := [(152, s_divided)]) (hs := []) ⟨ok_arith_divided, trivial⟩ trivial m_arith_number fun op a b h => ?_
  obtain ⟨ha, hb⟩ := h
  by_cases h3 : op = 3
  · subst h3
    simp only [d_arith_number, eI, ↓dwp_ops, ↓dwp_seq, ↓dwp_block, ↓dwp_ret, ↓dwp_cond, dvalX, dops_nil, dops_none, ↓then_normal, ↓then_ret, ↓inBlock_ret, put_some, ev_t, ev_c, endP_ret, dval, get_cons, Nat.reduceEqDiff, ↓reduceIte, Nat.succ_ne_self, and_true, dBin, dInt, retV, retL, DR.val, fzT, fzVs, fzV, fz1, DV.immB, reduceCtorEq, IntKind.wrap_i64, beq_self_eq_true, fNumber, numF]
  have e3 : (op == 3) = false := by simp [h3]
  by_cases h4 : op = 4
  · subst h4
    simp only [d_arith_number, eI, ↓dwp_ops, ↓dwp_seq, ↓dwp_block, ↓dwp_ret, ↓dwp_cond, dvalX, dops_nil, dops_none, ↓then_normal, ↓then_ret, ↓inBlock_ret, put_some, ev_t, ev_c, endP_ret, dval, get_cons, Nat.reduceEqDiff, ↓reduceIte, Nat.succ_ne_self, and_true, dBin, dInt, retV, retL, DR.val, fzT, fzVs, fzV, fz1, DV.immB, Bool.false_eq_true, reduceCtorEq, IntKind.wrap_i64, beq_self_eq_true, Int.reduceBEq, Int.reduceEq, fNumber, numF]
  have e4 : (op == 4) = false := by simp [h4]
  by_cases h5 : op = 5
  · subst h5
    simp only [d_arith_number, eI, ↓dwp_ops, ↓dwp_seq, ↓dwp_block, ↓dwp_ret, ↓dwp_cond, dvalX, dops_nil, dops_none, ↓then_normal, ↓then_ret, ↓inBlock_ret, put_some, ev_t, ev_c, endP_ret, dval, get_cons, Nat.reduceEqDiff, ↓reduceIte, Nat.succ_ne_self, and_true, dBin, dInt, retV, retL, DR.val, fzT, fzVs, fzV, fz1, DV.immB, Bool.false_eq_true, reduceCtorEq, IntKind.wrap_i64, beq_self_eq_true, Int.reduceBEq, Int.reduceEq, fNumber, numF]
  have e5 : (op == 5) = false := by simp [h5]
  by_cases h0 : b = 0
  · subst h0
    simp only [d_arith_number, eI, ↓dwp_skip, ↓dwp_ops, ↓dwp_seq, ↓dwp_block, ↓dwp_ret, ↓dwp_cond, dvalX, dops_nil, dops_none, ↓then_normal, ↓then_ret, ↓inBlock_normal, put_some, ev_t, ev_c, endP_ret, dval, get_cons, Nat.reduceEqDiff, ↓reduceIte, Nat.succ_ne_self, and_true, dBin, dInt, retV, retL, DR.val, fzT, fzVs, fzV, fz1, DV.immB, Bool.false_eq_true, reduceCtorEq, beq_self_eq_true, fNumber, numF, e3, e4, e5, h3, h4, h5]
  have e0 : (b == 0) = false := by simp [h0]
  by_cases h6 : op = 6
  · subst h6
    simp only [d_arith_number, eI, ↓dwp_skip, ↓dwp_ops, ↓dwp_seq, ↓dwp_block, ↓dwp_ret, ↓dwp_cond, dvalX, dops_nil, dops_none, ↓then_normal, ↓then_ret, ↓inBlock_normal, put_some, ev_t, ev_c, endP_ret, dval, get_cons, Nat.reduceEqDiff, Nat.reduceAdd, ↓reduceIte, Nat.succ_ne_self, and_true, dBin, dInt, retV, retL, DR.val, fzT, fzVs, fzV, fz1, DV.immB, List.map_cons, List.map_nil, Bool.false_eq_true, reduceCtorEq, List.length_cons, List.length_nil, List.getD_cons_zero, List.getD_cons_succ, Nat.lt_add_one, Nat.reduceLT, Nat.zero_add, IntKind.wrap_i64, dCallP, viewVs, viewV, view1, noMemV, noMem, of_p, pOf_cons, List.all_cons, List.all_nil, Bool.and_true, not_false_eq_true, beq_self_eq_true, Int.reduceBEq, Int.reduceEq, ne_eq, e0, h0, s_divided_at, fDivided, fNumber, numF, ha, hb]
  · have e6 : (op == 6) = false := by simp [h6]
    simp only [d_arith_number, eI, ↓dwp_skip, ↓dwp_ops, ↓dwp_seq, ↓dwp_block, ↓dwp_ret, ↓dwp_cond, dvalX, dops_nil, dops_none, ↓then_normal, ↓inBlock_normal, put_some, ev_t, ev_c, endP_ret, dval, get_cons, Nat.reduceEqDiff, Nat.reduceAdd, ↓reduceIte, Nat.succ_ne_self, and_true, dBin, dInt, retV, retL, DR.val, fzT, fzVs, fzV, fz1, DV.immB, List.map_cons, List.map_nil, Bool.false_eq_true, reduceCtorEq, List.length_cons, List.length_nil, List.getD_cons_zero, List.getD_cons_succ, Nat.lt_add_one, Nat.reduceLT, Nat.zero_add, IntKind.wrap_i64, dCallP, viewVs, viewV, view1, noMemV, noMem, of_p, pOf_cons, List.all_cons, List.all_nil, Bool.and_true, not_false_eq_true, ne_eq, e0, h0, s_divided_at, fDivided, fNumber, numF, ha, hb, e6, h6, e3, e4, e5, h3, h4, h5]

end Go.Proofs.YtjgefhgkinocmaaGreat

/- The operators of two sides: what each function tells. -/
set_option linter.all false
set_option maxRecDepth 20000
namespace Go.Proofs.YtjgefhgkinocmaaGreat
open Go.Nk

def grpF (op : Int) : Int := if 3 ≤ op ∧ op ≤ 7 then 1 else if 8 ≤ op ∧ op ≤ 10 then 2 else if 11 ≤ op ∧ op ≤ 12 then 4 else if 13 ≤ op ∧ op ≤ 16 then 3 else 0
def fGroup (op : Int) : Prop × DV := (True, .int .i64 (grpF op))
noncomputable def s_group : List DV → Prop × DV := spec1 eI fGroup
theorem s_group_at (op : Int) : s_group [.int .i64 op] = fGroup op := spec1_at inj_I _ _

/-- Each of the operators, or none. -/
theorem op_cases (op : Int) : ((op == 1) = false ∧ (op == 2) = false ∧ (op == 3) = false ∧ (op == 4) = false ∧ (op == 5) = false ∧ (op == 6) = false ∧ (op == 7) = false ∧ (op == 8) = false ∧ (op == 9) = false ∧ (op == 10) = false ∧ (op == 11) = false ∧ (op == 12) = false ∧ (op == 13) = false ∧ (op == 14) = false ∧ (op == 15) = false ∧ (op == 16) = false ∧ (op < 1 ∨ 16 < op)) ∨ op = 1 ∨ op = 2 ∨ op = 3 ∨ op = 4 ∨ op = 5 ∨ op = 6 ∨ op = 7 ∨ op = 8 ∨ op = 9 ∨ op = 10 ∨ op = 11 ∨ op = 12 ∨ op = 13 ∨ op = 14 ∨ op = 15 ∨ op = 16 := by
  simp only [beq_eq_false_iff_ne]
  omega

theorem ok_arith_group : OkP Tryz.prog 141 s_group := by
  refine OkP.mk1 (ps := []) (hs := []) trivial trivial m_arith_group fun op _ => ?_
  rcases op_cases op with ⟨h1, h2, h3, h4, h5, h6, h7, h8, h9, h10, h11, h12, h13, h14, h15, h16, hr⟩ | rfl | rfl | rfl | rfl | rfl | rfl | rfl | rfl | rfl | rfl | rfl | rfl | rfl | rfl | rfl | rfl
  · have e : grpF op = 0 := by unfold grpF; split <;> first | omega | (split <;> first | omega | (split <;> first | omega | (split <;> omega)))
    simp only [d_arith_group, eI, ↓dwp_skip, ↓dwp_ops, ↓dwp_seq, ↓dwp_block, ↓dwp_exit, ↓dwp_ret, ↓dwp_cond, dvalX, dops_nil, dops_none, ↓then_normal, ↓then_exit, ↓inBlock_exit, put_some, ev_t, ev_c, endP_ret, dval, get_cons, Nat.reduceEqDiff, ↓reduceIte, and_true, dBin, dInt, retV, DR.val, fzT, fzV, fz1, DV.immB, Bool.false_eq_true, reduceCtorEq, Nat.zero_ne_one, fGroup, e, h3, h4, h5, h6, h7, h8, h9, h10, h11, h12, h13, h14, h15, h16]
  all_goals simp only [d_arith_group, and_false, eI, ↓dwp_skip, ↓dwp_ops, ↓dwp_seq, ↓dwp_block, ↓dwp_exit, ↓dwp_ret, ↓dwp_cond, dvalX, dops_nil, dops_none, ↓then_normal, ↓then_exit, ↓inBlock_normal, ↓inBlock_exit, put_some, ev_t, ev_c, endP_ret, dval, get_cons, Nat.reduceEqDiff, ↓reduceIte, Nat.succ_ne_self, and_true, dBin, dInt, retV, DR.val, fzT, fzV, fz1, DV.immB, Bool.false_eq_true, reduceCtorEq, Nat.zero_ne_one, Int.reduceLE, beq_self_eq_true, Int.reduceBEq, fGroup, grpF]

def holdsF (op a b : Int) : Bool :=
  if op = 8 then a != 0 && b != 0 else if op = 9 then a != 0 || b != 0 else if op = 10 then (a != 0) != (b != 0) else if op = 11 then a == b else if op = 12 then a != b
  else if op = 13 then decide (a < b) else if op = 14 then decide (a ≤ b) else if op = 15 then decide (b < a) else decide (b ≤ a)
def fHolds (op a b : Int) : Prop × DV := (8 ≤ op ∧ op ≤ 16, .bool (holdsF op a b))
noncomputable def s_holds : List DV → Prop × DV := spec3 eI eI eI fHolds
theorem s_holds_at (op a b : Int) : s_holds [.int .i64 op, .int .i64 a, .int .i64 b] = fHolds op a b := spec3_at inj_I inj_I inj_I _ _ _ _

theorem ok_arith_holds : OkP Tryz.prog 151 s_holds := by
  refine OkP.mk3 (ps := []) (hs := []) trivial trivial m_arith_holds fun op a b h => ?_
  have h' : op = 8 ∨ op = 9 ∨ op = 10 ∨ op = 11 ∨ op = 12 ∨ op = 13 ∨ op = 14 ∨ op = 15 ∨ op = 16 := by have := h.1; have := h.2; omega
  rcases h' with rfl | rfl | rfl | rfl | rfl | rfl | rfl | rfl | rfl <;> cases ca : (a != 0) <;> cases cb : (b != 0) <;>
    simp only [d_arith_holds, eI, ↓dwp_skip, ↓dwp_ops, ↓dwp_seq, ↓dwp_block, ↓dwp_ret, ↓dwp_cond, dvalX, dops_nil, dops_none, dops_some, ↓then_normal, ↓then_ret, ↓inBlock_normal, ↓inBlock_ret, put_some, ev_t, ev_c, endP_ret, dval, get_cons, Nat.reduceEqDiff, ↓reduceIte, Nat.succ_ne_self, true_and, and_true, Bool.not_true, beq_ft, beq_tf, bne_ft, bne_tf, bne_self_eq_false, Bool.not_false, dBin, dInt, dBeq, retV, DR.val, fzT, fzV, fz1, DV.immB, Bool.false_eq_true, Bool.true_eq_false, reduceCtorEq, Int.reduceLE, Bool.and_true, Bool.and_false, beq_self_eq_true, gt_iff_lt, ge_iff_le, Int.reduceBEq, Int.reduceEq, DV.bool.injEq, fHolds, holdsF, ca, cb] <;> rfl

def binF (op a b : Int) : Int × Int := if 3 ≤ op ∧ op ≤ 7 then numF op a b else if 8 ≤ op ∧ op ≤ 16 then (tr (holdsF op a b), 0) else (0, 1)
def fBin (op a b : Int) : Prop × DV := (in64 a ∧ in64 b, .tup [.int .i64 (binF op a b).1, .int .i64 (binF op a b).2])
noncomputable def s_Bin : List DV → Prop × DV := spec3 eI eI eI fBin
theorem s_Bin_at (op a b : Int) : s_Bin [.int .i64 op, .int .i64 a, .int .i64 b] = fBin op a b := spec3_at inj_I inj_I inj_I _ _ _ _

theorem ok_arith_Bin : OkP Tryz.prog 148 s_Bin := by
  refine OkP.mk3 (ps := [(149, s_truth), (141, s_group), (150, s_number), (151, s_holds)]) (hs := []) ⟨ok_arith_truth, ok_arith_group, ok_arith_number, ok_arith_holds, trivial⟩ trivial m_arith_Bin fun op a b h => ?_
  obtain ⟨ha, hb⟩ := h
  rcases op_cases op with ⟨h1, h2, h3, h4, h5, h6, h7, h8, h9, h10, h11, h12, h13, h14, h15, h16, hr⟩ | rfl | rfl | rfl | rfl | rfl | rfl | rfl | rfl | rfl | rfl | rfl | rfl | rfl | rfl | rfl | rfl
  · have e : grpF op = 0 := by unfold grpF; split <;> first | omega | (split <;> first | omega | (split <;> first | omega | (split <;> omega)))
    have e1 : ¬ (3 ≤ op ∧ op ≤ 7) := by omega
    have e2 : ¬ (8 ≤ op ∧ op ≤ 16) := by omega
    simp only [d_arith_Bin, eI, ↓dwp_ops, ↓dwp_seq, ↓dwp_block, ↓dwp_ret, ↓dwp_cond, dvalX, dops_nil, dops_none, ↓then_normal, ↓then_ret, ↓inBlock_ret, put_some, ev_t, ev_c, endP_ret, dval, get_cons, Nat.reduceEqDiff, ↓reduceIte, and_true, dBin, dInt, retV, retL, DR.val, fzT, fzVs, fzV, fz1, DV.immB, List.map_cons, List.map_nil, reduceCtorEq, dCallP, viewVs, viewV, view1, noMemV, noMem, of_p, pOf_cons, beq_self_eq_true, s_group_at, fGroup, e, fBin, binF, e1, e2]
  all_goals simp only [d_arith_Bin, and_false, eI, ↓dwp_skip, ↓dwp_ops, ↓dwp_seq, ↓dwp_block, ↓dwp_ret, ↓dwp_cond, dvalX, dops_nil, dops_none, ↓then_normal, ↓then_ret, ↓inBlock_normal, ↓inBlock_ret, put_some, ev_t, ev_c, endP_ret, dval, get_cons, Nat.reduceEqDiff, Nat.reduceAdd, ↓reduceIte, Nat.succ_ne_self, and_true, dBin, dInt, retV, retL, DR.val, fzT, fzVs, fzV, fz1, DV.immB, List.map_cons, List.map_nil, Bool.false_eq_true, reduceCtorEq, List.length_cons, List.length_nil, List.getD_cons_zero, List.getD_cons_succ, Nat.lt_add_one, Int.reduceLE, Nat.reduceLT, Nat.zero_add, dCallP, viewVs, viewV, view1, noMemV, noMem, of_p, pOf_cons, List.all_cons, List.all_nil, Bool.and_true, beq_self_eq_true, Int.reduceBEq, s_group_at, fGroup, grpF, fBin, binF, s_number_at, fNumber, s_holds_at, fHolds, s_truth_at, fTruth, ha, hb]

end Go.Proofs.YtjgefhgkinocmaaGreat

