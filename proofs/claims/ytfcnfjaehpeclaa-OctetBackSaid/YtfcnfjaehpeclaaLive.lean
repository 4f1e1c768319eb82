/- The octet laws' live cases; the laws' plain parts. -/
import Derived.Test.YtfcnfjaehpeclaaBack2
set_option linter.unusedSimpArgs false
set_option linter.unusedVariables false
namespace Go.Proofs.Ytfcnfjaehpeclaa
open Go.Nk

theorem small_of {l : List UInt8} (h : l.length < 9223372036854775808) : small l := h

theorem fzLL_bsl (hp : List DObj) : ∀ l : List UInt8, fzLL hp (bsl l) = ⟨True, bsl l, hp⟩
  | [] => rfl
  | b :: l => by
    have h := fzLL_bsl hp l
    have e : bsl (b :: l) = [.int .u8 b.toNat] :: bsl l := rfl
    rw [e]
    simp [fzLL, fzL, fz1, DV.immB, h]

theorem rows_bsl (l : List UInt8) : (∀ e, e ∈ bsl l → e.length = 0 + 1) = True := eq_true bsl_rows

theorem rows_bsl1 (l : List UInt8) : (∀ e, e ∈ bsl l → e.length = 1) = True := eq_true bsl_rows

theorem ok14 : C14.ok Try.prog := by
  refine Orc.addP_ok ok13 0 m11 fun args h => ?_
  unfold fLive at h ⊢
  split at h
  · refine ⟨rfl, ?_⟩
    have c6 : ∀ a, C13.p 6 a = specB1 fBack a := fun _ => rfl
    have c13 : ∀ a, C13.p 13 a = sPut a := fun _ => rfl
    have c8 : ∀ a, C13.p 8 a = specB2 fSame a := fun _ => rfl
    have c9 : ∀ a, C13.p 9 a = sInt a := fun _ => rfl
    have q1 : ([[.int .u8 0], [.int .u8 1]] : List (List DV)) = bsl [0, 1] := rfl
    have q2 : ([[.int .u8 255], [.int .u8 127]] : List (List DV)) = bsl [255, 127] := rfl
    have q3 : ([[.int .u8 1], [.int .u8 2]] : List (List DV)) = bsl [1, 2] := rfl
    have e1 : bad [0, 1] = true := by decide +kernel
    have e2 : bad [255, 127] = false := by decide +kernel
    have e3 : sgn [255, 127] = -129 := by decide +kernel
    have e4 : putL 258 2 = [1, 2] := by decide +kernel
    have e5 : intF (-129) = [255, 127] := by decide +kernel
    have e6 : ([1, 2] : List UInt8) == [1, 2] := by decide +kernel
    have e7 : ([255, 127] : List UInt8) == [255, 127] := by decide +kernel
    have e8 : (-129 : Int) == -129 := by decide
    have b1 : fBack [0, 1] = (small [0, 1], .tup [.int .i64 0, .bool false]) := by unfold fBack; rw [e1]; rfl
    have b2 : fBack [255, 127] = (small [255, 127], .tup [.int .i64 (-129), .bool true]) := by unfold fBack; rw [e2, e3]; rfl
    have p1 : sPut [.int .u64 258, .int .i64 2] = (True, .sl (bsl [1, 2])) := by
      have : sPut [.int .u64 258, .int .i64 2] = ((0 : Int) ≤ 258 ∧ (258 : Int) < 18446744073709551616, .sl (bsl (putL 258 2))) := by simp [sPut]
      rw [this, e4]; simp
    have i1 : sInt [.int .i64 (-129)] = (True, .sl (bsl [255, 127])) := by
      have : sInt [.int .i64 (-129)] = ((-9223372036854775808 : Int) ≤ -129 ∧ (-129 : Int) < 9223372036854775808, .sl (bsl (intF (-129)))) := rfl
      rw [this, e5]; simp
    have n1 : small [0, 1] := by unfold small; simp
    have n2 : small [255, 127] := by unfold small; simp
    have n3 : small [1, 2] := by unfold small; simp
    simp only [d11, ↓dwp_skip, ↓dwp_ops, ↓dwp_seq, ↓dwp_block, ↓dwp_exit, ↓dwp_ret, ↓dwp_cond, dops_nil, dops_none, dops_some, ↓then_normal, ↓then_exit, ↓then_ret, ↓inBlock_normal, ↓inBlock_exit, ↓inBlock_ret, put_some, put_none, ev_t, ev_c, endP_normal, endP_ret, endH_normal, endH_ret, dval, frameFrom, get_cons, Nk.get_nil, Nat.reduceEqDiff, Nat.reduceAdd, ↓reduceIte, if_true, Nat.succ_ne_self, true_and, and_true, Bool.not_true, Bool.not_false, dBin, dInt, dStr, dBeq, dUn, dLoad, cellsAt, retV, retL, DR.val, fzT, fzVs, fzV, fz1, DV.immB, List.map_cons, List.map_nil, Option.map_some, Option.map_none, Bool.false_eq_true, false_implies, forall_const, Bool.true_eq_false, reduceCtorEq, implies_true, Int.toNat_natCast, Nat.zero_ne_one, Nat.one_ne_zero, Nat.reduceSub, List.length_cons, List.length_nil, List.getD_cons_zero, List.getD_cons_succ, Int.reduceToNat, IntKind.bits, Int.reducePow, Nat.reducePow, Nat.lt_add_one, Nat.zero_lt_one, Int.reduceLE, Int.reduceLT, Nat.reduceLeDiff, Nat.reduceLT, Nat.zero_add, IntKind.wrap_u64, IntKind.wrap_i64, IntKind.wrap_u8, decide_eq_true_eq, decide_eq_false_iff_not, Int.ofNat_lt, bsl_length, dCallP, viewVs, viewV, view1, viewL, noMemV, noMem, addP_p, specB1_at, specB2_at, List.all_cons, List.all_nil, Bool.and_true, Bool.and_false, Bool.true_and, Bool.false_and, not_true_eq_false, not_false_eq_true, List.getElem?_cons_zero, List.getElem?_cons_succ, List.set_cons_zero, List.set_cons_succ, elemsOf, dAppend, dStore, freezeAt, List.drop_zero, List.take_length, List.not_mem_nil, List.nil_append, fzLL, fzL, bRow, bU, cellsOf, true_or, or_true, or_false, false_or, or_self, setFrom, DV.isU, beq_self_eq_true, List.length_set, List.length_append, List.length_replicate, decide_true, decide_false, gt_iff_lt, ge_iff_le, slice_lo, slice_hi, slice_both, List.getElem?_nil, fzLL_bsl, rows_bsl, rows_bsl1, q1, q2, q3, c6, c13, c8, c9, b1, b2, p1, i1, fSame, e6, e7, e8, n1, n2, n3]
  · exact h.elim

/-- What a slice of octets from outside is. -/
def sOctetInts : List DV → Prop × DV
  | [.int .i64 x, .sl es] => match unb es with
    | some l => (-9223372036854775808 ≤ x ∧ x < 9223372036854775808 ∧ small l, .bool true)
    | none => (False, .undef)
  | _ => (False, .undef)

theorem trim_length : ∀ (n : Nat) (l : List UInt8), (trimN n l).length ≤ l.length
  | 0, l => Nat.le_refl _
  | n + 1, l => by
    unfold trimN
    split
    · exact Nat.le_trans (trim_length n _) (by simp)
    · exact Nat.le_refl _

theorem intF_length (x : Int) : (intF x).length ≤ 8 := by
  have := trim_length (putL (x % 18446744073709551616).toNat 8).length (putL (x % 18446744073709551616).toNat 8)
  rw [putL_length] at this
  unfold intF trim
  rw [putL_length]
  exact this

def C15 : Orc := C14.addP 3 sOctetInts

theorem ok15 : C15.ok Try.prog := by
  refine Orc.addP_ok ok14 2 m3 fun args h => ?_
  unfold sOctetInts at h ⊢
  split at h
  · rename_i x es
    split at h
    · rename_i l hl
      obtain rfl := unb_some _ _ hl
      refine ⟨rfl, ?_⟩
      have c6 : ∀ a, C14.p 6 a = specB1 fBack a := fun _ => rfl
      have c7 : ∀ a, C14.p 7 a = specB1 fBack a := fun _ => rfl
      have c8 : ∀ a, C14.p 8 a = specB2 fSame a := fun _ => rfl
      have c9 : ∀ a, C14.p 9 a = sInt a := fun _ => rfl
      have c10 : ∀ a, C14.p 10 a = sInt a := fun _ => rfl
      have c11 : C14.p 11 [] = (True, .bool true) := rfl
      have s1 : fSame (intF x) (intF x) = (small (intF x) ∧ small (intF x), .bool true) := by simp [fSame]
      have hx : -9223372036854775808 ≤ x ∧ x < 9223372036854775808 := ⟨h.1, h.2.1⟩
      have hI : small (intF x) := by have := intF_length x; unfold small; omega
      cases hb : bad l <;> simp only [d3, ↓dwp_skip, ↓dwp_ops, ↓dwp_seq, ↓dwp_block, ↓dwp_exit, ↓dwp_ret, ↓dwp_cond, dops_nil, dops_none, dops_some, ↓then_normal, ↓then_exit, ↓then_ret, ↓inBlock_normal, ↓inBlock_exit, ↓inBlock_ret, put_some, put_none, ev_t, ev_c, endP_normal, endP_ret, endH_normal, endH_ret, dval, frameFrom, get_cons, Nk.get_nil, Nat.reduceEqDiff, Nat.reduceAdd, ↓reduceIte, if_true, Nat.succ_ne_self, true_and, and_true, Bool.not_true, Bool.not_false, dBin, dInt, dStr, dBeq, dUn, dLoad, cellsAt, retV, retL, DR.val, fzT, fzVs, fzV, fz1, DV.immB, List.map_cons, List.map_nil, Option.map_some, Option.map_none, Bool.false_eq_true, false_implies, forall_const, Bool.true_eq_false, reduceCtorEq, implies_true, Int.toNat_natCast, Nat.zero_ne_one, Nat.one_ne_zero, Nat.reduceSub, List.length_cons, List.length_nil, List.getD_cons_zero, List.getD_cons_succ, Int.reduceToNat, IntKind.bits, Int.reducePow, Nat.reducePow, Nat.lt_add_one, Nat.zero_lt_one, Int.reduceLE, Int.reduceLT, Nat.reduceLeDiff, Nat.reduceLT, Nat.zero_add, IntKind.wrap_u64, IntKind.wrap_i64, IntKind.wrap_u8, decide_eq_true_eq, decide_eq_false_iff_not, Int.ofNat_lt, bsl_length, dCallP, viewVs, viewV, view1, viewL, noMemV, noMem, addP_p, specB1_at, specB2_at, List.all_cons, List.all_nil, Bool.and_true, Bool.and_false, Bool.true_and, Bool.false_and, not_true_eq_false, not_false_eq_true, List.getElem?_cons_zero, List.getElem?_cons_succ, List.set_cons_zero, List.set_cons_succ, elemsOf, dAppend, dStore, freezeAt, List.drop_zero, List.take_length, List.not_mem_nil, List.nil_append, fzLL, fzL, bRow, bU, cellsOf, true_or, or_true, or_false, false_or, or_self, setFrom, DV.isU, beq_self_eq_true, List.length_set, List.length_append, List.length_replicate, decide_true, decide_false, gt_iff_lt, ge_iff_le, slice_lo, slice_hi, slice_both, List.getElem?_nil, c6, c7, c8, c9, c10, c11, fBack, hb, sInt, s1] <;> exact ⟨h.2.2, h.2.2, hx, hx, hI, hI⟩
    · exact h.elim
  · exact h.elim
end Go.Proofs.Ytfcnfjaehpeclaa
