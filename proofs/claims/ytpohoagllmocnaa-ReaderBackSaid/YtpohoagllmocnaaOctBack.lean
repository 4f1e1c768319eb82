/- The octet functions Back: what each tells. -/
import Derived.Test.YtpohoagllmocnaaOct
set_option linter.unusedSimpArgs false
set_option linter.unusedVariables false
set_option maxRecDepth 20000
namespace Go.Proofs.Ytpohoagllmocnaa
open Go.Nk

/-! Back. -/
def bad (l : List UInt8) : Bool := decide (l.length < 1) || (decide (8 < l.length) || idleF l)

/-- The signed number that the octets stand for. -/
def sgn (l : List UInt8) : Int := if (l.getD 0 0).toNat < 128 then (getF l : Int) else (getF l : Int) - 256 ^ l.length

def fBack (l : List UInt8) : Prop × DV := (small l, if bad l then .tup [.int .i64 0, .bool false] else .tup [.int .i64 (sgn l), .bool true])

theorem getF_lt : ∀ (l : List UInt8), l.length ≤ 8 → getF l < 256 ^ l.length := by
  intro l
  have key : ∀ (r : List UInt8) (a n : Nat), a < 256 ^ n → n + r.length ≤ 8 → r.foldl (fun a b => (a * 256 + b.toNat) % 18446744073709551616) a < 256 ^ (n + r.length) := by
    intro r
    induction r with
    | nil => intro a n h _; exact h
    | cons b r ih =>
      intro a n h hn
      simp only [List.foldl_cons, List.length_cons]
      have hb := b.toNat_lt
      have h1 : a * 256 + b.toNat < 256 ^ (n + 1) := by rw [Nat.pow_succ]; omega
      have h2 := ih ((a * 256 + b.toNat) % 18446744073709551616) (n + 1) (Nat.lt_of_le_of_lt (Nat.mod_le _ _) h1) (by simp at hn; omega)
      rw [show n + (r.length + 1) = n + 1 + r.length by omega]
      exact h2
  intro h
  have := key l 0 0 (by simp) (by omega)
  rwa [Nat.zero_add] at this

theorem pow8 (n : Nat) (h : n ≤ 8) : 256 ^ n ≤ 18446744073709551616 := by
  have e : (18446744073709551616 : Nat) = 256 ^ 8 := by decide +kernel
  rw [e]
  exact Nat.pow_le_pow_right (Nat.succ_pos _) h

theorem getF_cons (b : UInt8) (l : List UInt8) (h : l.length ≤ 7) : getF (b :: l) = b.toNat * 256 ^ l.length + getF l := by
  have key : ∀ (r : List UInt8) (a n : Nat), a < 256 ^ n → n + r.length ≤ 8 → r.foldl (fun a b => (a * 256 + b.toNat) % 18446744073709551616) a = a * 256 ^ r.length + getF r := by
    intro r
    induction r with
    | nil => intro a n h _; simp [getF]
    | cons c r ih =>
      intro a n h hn
      have hc := c.toNat_lt
      simp only [List.length_cons] at hn
      have h1 : a * 256 + c.toNat < 256 ^ (n + 1) := by rw [Nat.pow_succ]; omega
      have hp : 256 ^ (n + 1) ≤ 18446744073709551616 := pow8 (n + 1) (by omega)
      have e1 : (a * 256 + c.toNat) % 18446744073709551616 = a * 256 + c.toNat := Nat.mod_eq_of_lt (Nat.lt_of_lt_of_le h1 hp)
      have e2 : getF (c :: r) = c.toNat * 256 ^ r.length + getF r := by
        have := ih c.toNat 1 (by omega) (by omega)
        unfold getF at this ⊢
        have hc2 : c.toNat < 18446744073709551616 := by omega
        simp only [List.foldl_cons, Nat.zero_mul, Nat.zero_add, Nat.mod_eq_of_lt hc2]
        exact this
      simp only [List.foldl_cons, List.length_cons]
      rw [e1, ih _ (n + 1) h1 (by omega), e2, Nat.pow_succ, Nat.add_mul]
      have : a * (256 ^ r.length * 256) = a * 256 * 256 ^ r.length := by rw [Nat.mul_comm (256 ^ r.length) 256, Nat.mul_assoc]
      omega
  have hb := b.toNat_lt
  have := key l b.toNat 1 (by omega) (by omega)
  unfold getF at this ⊢
  have hb2 : b.toNat < 18446744073709551616 := by omega
  simp only [List.foldl_cons, Nat.zero_mul, Nat.zero_add, Nat.mod_eq_of_lt hb2]
  exact this

theorem sgn_shift (b R m : Nat) (hb : b < 256) (hR : R < 256 ^ m) (hm : m ≤ 7) :
    (IntKind.i64.wrap (IntKind.u64.wrap (((b * 256 ^ m + R : Nat) : Int) * 2 ^ min (8 * (8 - ((m + 1 : Nat) : Int))).toNat 64))).fdiv (2 ^ min (8 * (8 - ((m + 1 : Nat) : Int))).toNat 64) =
      if b < 128 then ((b * 256 ^ m + R : Nat) : Int) else ((b * 256 ^ m + R : Nat) : Int) - 256 ^ (m + 1) := by
  rw [Int.fdiv_eq_ediv_of_nonneg _ (Int.pow_nonneg (by omega)), IntKind.wrap_u64, IntKind.wrap_i64]
  have hk : min (8 * (8 - ((m + 1 : Nat) : Int))).toNat 64 = 8 * (7 - m) := by omega
  rw [hk]
  have cases : m = 0 ∨ m = 1 ∨ m = 2 ∨ m = 3 ∨ m = 4 ∨ m = 5 ∨ m = 6 ∨ m = 7 := by omega
  rcases cases with rfl | rfl | rfl | rfl | rfl | rfl | rfl | rfl <;> simp only [Nat.reduceSub, Nat.reduceMul, Nat.reducePow, Int.reducePow, Nat.reduceAdd] at hR ⊢ <;> split <;> omega

theorem ok_octet_Back : OkP Try.prog 38 (specB1 fBack) := by
  refine OkP.mk (ps := [(47, specB1 fIdle), (34, specB1 fGet)]) (hs := []) (n := 1) ⟨ok_octet_idle, ok_octet_Get, trivial⟩ trivial m_octet_Back (specB1_ok fun l h => ?_)
  have h2 : l.length < 9223372036854775808 := h
  by_cases h1 : l.length < 1
  · have h1' : (l.length : Int) < 1 := by omega
    have hb : bad l = true := by unfold bad; rw [decide_eq_true h1]; rfl
    simp only [d_octet_Back, fBack, ↓dwp_skip, ↓dwp_ops, ↓dwp_seq, ↓dwp_block, ↓dwp_exit, ↓dwp_ret, ↓dwp_cond, dvalX, DOp.kind, dops_nil, dops_none, dops_some, ↓then_normal, ↓then_exit, ↓then_ret, ↓inBlock_normal, ↓inBlock_exit, ↓inBlock_ret, put_some, put_none, ev_t, ev_c, endP_normal, endP_ret, endH_normal, endH_ret, dval, frameFrom, get_cons, Nk.get_nil, Nat.reduceEqDiff, Nat.reduceAdd, ↓reduceIte, if_true, Nat.succ_ne_self, true_and, and_true, Bool.not_true, Bool.not_false, dBin, dInt, dStr, dBeq, dUn, dLoad, cellsAt, retV, retL, DR.val, fzT, fzVs, fzV, fz1, DV.immB, List.map_cons, List.map_nil, Option.map_some, Option.map_none, Bool.false_eq_true, false_implies, forall_const, Bool.true_eq_false, reduceCtorEq, implies_true, Int.toNat_natCast, Nat.zero_ne_one, Nat.one_ne_zero, Nat.reduceSub, List.length_cons, List.length_nil, List.getD_cons_zero, List.getD_cons_succ, Int.reduceToNat, IntKind.bits, Int.reducePow, Nat.reducePow, Nat.lt_add_one, Nat.zero_lt_one, Int.reduceLE, Int.reduceLT, Nat.reduceLeDiff, Nat.reduceLT, Nat.zero_add, IntKind.wrap_u64, IntKind.wrap_i64, IntKind.wrap_u8, decide_eq_true_eq, decide_eq_false_iff_not, Int.ofNat_lt, bsl_length, dCallP, viewVs, viewV, view1, viewL, noMemV, noMem, of_p, of_h, pOf_cons, hOf_cons, specB1_at, specB2_at, List.all_cons, List.all_nil, Bool.and_true, Bool.and_false, Bool.true_and, Bool.false_and, not_true_eq_false, not_false_eq_true, List.getElem?_cons_zero, List.getElem?_cons_succ, List.set_cons_zero, List.set_cons_succ, elemsOf, dAppend, dStore, freezeAt, List.drop_zero, List.take_length, List.not_mem_nil, List.nil_append, fzLL, fzL, bRow, bU, cellsOf, true_or, or_true, or_false, false_or, or_self, setFrom, DV.isU, beq_self_eq_true, List.length_set, List.length_append, List.length_replicate, decide_true, decide_false, gt_iff_lt, ge_iff_le, slice_lo, slice_hi, slice_both, List.getElem?_nil, h1', hb]
  have h1' : ¬ (l.length : Int) < 1 := by omega
  by_cases h8 : 8 < l.length
  · have h8' : (8 : Int) < (l.length : Int) := by omega
    have hb : bad l = true := by unfold bad; rw [decide_eq_true h8]; simp
    simp only [d_octet_Back, fBack, ↓dwp_skip, ↓dwp_ops, ↓dwp_seq, ↓dwp_block, ↓dwp_exit, ↓dwp_ret, ↓dwp_cond, dvalX, DOp.kind, dops_nil, dops_none, dops_some, ↓then_normal, ↓then_exit, ↓then_ret, ↓inBlock_normal, ↓inBlock_exit, ↓inBlock_ret, put_some, put_none, ev_t, ev_c, endP_normal, endP_ret, endH_normal, endH_ret, dval, frameFrom, get_cons, Nk.get_nil, Nat.reduceEqDiff, Nat.reduceAdd, ↓reduceIte, if_true, Nat.succ_ne_self, true_and, and_true, Bool.not_true, Bool.not_false, dBin, dInt, dStr, dBeq, dUn, dLoad, cellsAt, retV, retL, DR.val, fzT, fzVs, fzV, fz1, DV.immB, List.map_cons, List.map_nil, Option.map_some, Option.map_none, Bool.false_eq_true, false_implies, forall_const, Bool.true_eq_false, reduceCtorEq, implies_true, Int.toNat_natCast, Nat.zero_ne_one, Nat.one_ne_zero, Nat.reduceSub, List.length_cons, List.length_nil, List.getD_cons_zero, List.getD_cons_succ, Int.reduceToNat, IntKind.bits, Int.reducePow, Nat.reducePow, Nat.lt_add_one, Nat.zero_lt_one, Int.reduceLE, Int.reduceLT, Nat.reduceLeDiff, Nat.reduceLT, Nat.zero_add, IntKind.wrap_u64, IntKind.wrap_i64, IntKind.wrap_u8, decide_eq_true_eq, decide_eq_false_iff_not, Int.ofNat_lt, bsl_length, dCallP, viewVs, viewV, view1, viewL, noMemV, noMem, of_p, of_h, pOf_cons, hOf_cons, specB1_at, specB2_at, List.all_cons, List.all_nil, Bool.and_true, Bool.and_false, Bool.true_and, Bool.false_and, not_true_eq_false, not_false_eq_true, List.getElem?_cons_zero, List.getElem?_cons_succ, List.set_cons_zero, List.set_cons_succ, elemsOf, dAppend, dStore, freezeAt, List.drop_zero, List.take_length, List.not_mem_nil, List.nil_append, fzLL, fzL, bRow, bU, cellsOf, true_or, or_true, or_false, false_or, or_self, setFrom, DV.isU, beq_self_eq_true, List.length_set, List.length_append, List.length_replicate, decide_true, decide_false, gt_iff_lt, ge_iff_le, slice_lo, slice_hi, slice_both, List.getElem?_nil, h1', h8', hb]
  have h8' : ¬ (8 : Int) < (l.length : Int) := by omega
  have hs : small l := by unfold small; omega
  cases hi : idleF l with
  | true =>
    have hb : bad l = true := by simp [bad, hi]
    simp only [d_octet_Back, fBack, fIdle, ↓dwp_skip, ↓dwp_ops, ↓dwp_seq, ↓dwp_block, ↓dwp_exit, ↓dwp_ret, ↓dwp_cond, dvalX, DOp.kind, dops_nil, dops_none, dops_some, ↓then_normal, ↓then_exit, ↓then_ret, ↓inBlock_normal, ↓inBlock_exit, ↓inBlock_ret, put_some, put_none, ev_t, ev_c, endP_normal, endP_ret, endH_normal, endH_ret, dval, frameFrom, get_cons, Nk.get_nil, Nat.reduceEqDiff, Nat.reduceAdd, ↓reduceIte, if_true, Nat.succ_ne_self, true_and, and_true, Bool.not_true, Bool.not_false, dBin, dInt, dStr, dBeq, dUn, dLoad, cellsAt, retV, retL, DR.val, fzT, fzVs, fzV, fz1, DV.immB, List.map_cons, List.map_nil, Option.map_some, Option.map_none, Bool.false_eq_true, false_implies, forall_const, Bool.true_eq_false, reduceCtorEq, implies_true, Int.toNat_natCast, Nat.zero_ne_one, Nat.one_ne_zero, Nat.reduceSub, List.length_cons, List.length_nil, List.getD_cons_zero, List.getD_cons_succ, Int.reduceToNat, IntKind.bits, Int.reducePow, Nat.reducePow, Nat.lt_add_one, Nat.zero_lt_one, Int.reduceLE, Int.reduceLT, Nat.reduceLeDiff, Nat.reduceLT, Nat.zero_add, IntKind.wrap_u64, IntKind.wrap_i64, IntKind.wrap_u8, decide_eq_true_eq, decide_eq_false_iff_not, Int.ofNat_lt, bsl_length, dCallP, viewVs, viewV, view1, viewL, noMemV, noMem, of_p, of_h, pOf_cons, hOf_cons, specB1_at, specB2_at, List.all_cons, List.all_nil, Bool.and_true, Bool.and_false, Bool.true_and, Bool.false_and, not_true_eq_false, not_false_eq_true, List.getElem?_cons_zero, List.getElem?_cons_succ, List.set_cons_zero, List.set_cons_succ, elemsOf, dAppend, dStore, freezeAt, List.drop_zero, List.take_length, List.not_mem_nil, List.nil_append, fzLL, fzL, bRow, bU, cellsOf, true_or, or_true, or_false, false_or, or_self, setFrom, DV.isU, beq_self_eq_true, List.length_set, List.length_append, List.length_replicate, decide_true, decide_false, gt_iff_lt, ge_iff_le, slice_lo, slice_hi, slice_both, List.getElem?_nil, h1', h8', hb, hi, hs]
  | false =>
    have hb : bad l = false := by unfold bad; rw [decide_eq_false h1, decide_eq_false h8, hi]; rfl
    simp (disch := omega) only [d_octet_Back, fBack, fIdle, fGet, ↓dwp_skip, ↓dwp_ops, ↓dwp_seq, ↓dwp_block, ↓dwp_exit, ↓dwp_ret, ↓dwp_cond, dvalX, DOp.kind, dops_nil, dops_none, dops_some, ↓then_normal, ↓then_exit, ↓then_ret, ↓inBlock_normal, ↓inBlock_exit, ↓inBlock_ret, put_some, put_none, ev_t, ev_c, endP_normal, endP_ret, endH_normal, endH_ret, dval, frameFrom, get_cons, Nk.get_nil, Nat.reduceEqDiff, Nat.reduceAdd, ↓reduceIte, if_true, Nat.succ_ne_self, true_and, and_true, Bool.not_true, Bool.not_false, dBin, dInt, dStr, dBeq, dUn, dLoad, cellsAt, retV, retL, DR.val, fzT, fzVs, fzV, fz1, DV.immB, List.map_cons, List.map_nil, Option.map_some, Option.map_none, Bool.false_eq_true, false_implies, forall_const, Bool.true_eq_false, reduceCtorEq, implies_true, Int.toNat_natCast, Nat.zero_ne_one, Nat.one_ne_zero, Nat.reduceSub, List.length_cons, List.length_nil, List.getD_cons_zero, List.getD_cons_succ, Int.reduceToNat, IntKind.bits, Int.reducePow, Nat.reducePow, Nat.lt_add_one, Nat.zero_lt_one, Int.reduceLE, Int.reduceLT, Nat.reduceLeDiff, Nat.reduceLT, Nat.zero_add, wrap_i64_id, wrap_u64_id, wrap_u8_id, bsl_getD, decide_eq_true_eq, decide_eq_false_iff_not, Int.ofNat_lt, bsl_length, dCallP, viewVs, viewV, view1, viewL, noMemV, noMem, of_p, of_h, pOf_cons, hOf_cons, specB1_at, specB2_at, List.all_cons, List.all_nil, Bool.and_true, Bool.and_false, Bool.true_and, Bool.false_and, not_true_eq_false, not_false_eq_true, List.getElem?_cons_zero, List.getElem?_cons_succ, List.set_cons_zero, List.set_cons_succ, elemsOf, dAppend, dStore, freezeAt, List.drop_zero, List.take_length, List.not_mem_nil, List.nil_append, fzLL, fzL, bRow, bU, cellsOf, true_or, or_true, or_false, false_or, or_self, setFrom, DV.isU, beq_self_eq_true, List.length_set, List.length_append, List.length_replicate, decide_true, decide_false, gt_iff_lt, ge_iff_le, slice_lo, slice_hi, slice_both, List.getElem?_nil, h1', h8', hb, hi, hs]
    refine ⟨by omega, by omega, ?_⟩
    cases l with
    | nil => exact absurd (by simp) h1
    | cons b r =>
      have hr : r.length ≤ 7 := by simp only [List.length_cons] at h8; omega
      have hR := getF_lt r (by omega)
      have e := sgn_shift b.toNat (getF r) r.length b.toNat_lt hR hr
      rw [getF_cons b r hr]
      unfold sgn
      simp only [List.length_cons, List.getD_cons_zero]
      rw [getF_cons b r hr, e]
end Go.Proofs.Ytpohoagllmocnaa
