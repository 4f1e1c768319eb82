/- OctetBack: whatever the input, it answers true and its arguments read as they did. No condition. -/
import Derived.Test.YtfcnfjaehpeclaaPlain
import Derived.Test.YtfcnfjaehpeclaaRows
import Derived.Test.YtfcnfjaehpeclaaNkX
import Derived.WalkKit
import Derived.ProofKit
import Derived.JoinedOf
set_option linter.unusedSimpArgs false
set_option linter.unusedVariables false
namespace Go.Proofs.Ytfcnfjaehpeclaa
open Go.Nk Go.ChangeShapes Go.WideShapes Go.RowKit

theorem backBulk (H : Type) : Bulk (H := H) Rows.uptoBulk Rows.uptoBulkAll where
  lit l := by cases l <;> simp [Rows.uptoBulk]
  str s := by simp [Rows.uptoBulk]
  nil := by simp [Rows.uptoBulk]
  ptr d := by simp [Rows.uptoBulk]
  slice a b := by simp only [Rows.uptoBulk]; omega
  agg a := by simp only [Rows.uptoBulk]; omega
  cons d r := by simp [Rows.uptoBulkAll]

theorem backOwn : ownKnob Try.prog.godebug = none := by kernel_rfl

theorem back_run (x : Int) (l : List UInt8) (h : -9223372036854775808 ≤ x ∧ x < 9223372036854775808) (hs : small l) :
    dwp C14 0 d4.code (EndP d4.res (.bool true)) ⟨frameFrom 0 [.int .i64 x, .sl (bsl l)], []⟩ := by
  have c6 : ∀ a, C14.p 6 a = specB1 fBack a := fun _ => rfl
  have c8 : ∀ a, C14.p 8 a = specB2 fSame a := fun _ => rfl
  have c9 : ∀ a, C14.p 9 a = sInt a := fun _ => rfl
  have c11 : C14.p 11 [] = (True, .bool true) := rfl
  have c12 : ∀ a, C14.p 12 a = specB1 fGet a := fun _ => rfl
  have c13 : ∀ a, C14.p 13 a = sPut a := fun _ => rfl
  have hI : small (intF x) := by have := intF_length x; unfold small; omega
  obtain ⟨e1, e2⟩ := back_int x h
  have i1 : sInt [.int .i64 x] = (True, .sl (bsl (intF x))) := by
    have : sInt [.int .i64 x] = (-9223372036854775808 ≤ x ∧ x < 9223372036854775808, .sl (bsl (intF x))) := rfl
    rw [this, eq_true h]
  have b1 : fBack (intF x) = (True, .tup [.int .i64 x, .bool true]) := by
    unfold fBack; rw [e1, e2, eq_true hI]; rfl
  have p1 : sPut [.int .u64 (x % 18446744073709551616), .int .i64 8] = (True, .sl (bsl (putL (x % 18446744073709551616).toNat 8))) := by
    simp [sPut]
    omega
  have g1 : fGet (putL (x % 18446744073709551616).toNat 8) = (True, .int .u64 (x % 18446744073709551616)) := by
    have hl := putL_length (x % 18446744073709551616).toNat 8
    have h8 : (256 : Nat) ^ 8 = 18446744073709551616 := by decide +kernel
    have hsm : small (putL (x % 18446744073709551616).toNat 8) := by unfold small; omega
    unfold fGet
    rw [getF_putL _ 8 (Nat.le_refl _), h8, eq_true hsm]
    congr 2
    omega
  have n1 : (x != x) = false := by simp
  have n2 : (x % 18446744073709551616 != x % 18446744073709551616) = false := by simp
  cases hb : bad l with
  | true =>
    have b2 : fBack l = (True, .tup [.int .i64 0, .bool false]) := by unfold fBack; rw [hb, eq_true hs]; rfl
    simp only [d4, ↓dwp_skip, ↓dwp_ops, ↓dwp_seq, ↓dwp_block, ↓dwp_exit, ↓dwp_ret, ↓dwp_cond, dops_nil, dops_none, dops_some, ↓then_normal, ↓then_exit, ↓then_ret, ↓inBlock_normal, ↓inBlock_exit, ↓inBlock_ret, put_some, put_none, ev_t, ev_c, endP_normal, endP_ret, endH_normal, endH_ret, dval, frameFrom, get_cons, Nk.get_nil, Nat.reduceEqDiff, Nat.reduceAdd, ↓reduceIte, if_true, Nat.succ_ne_self, true_and, and_true, Bool.not_true, Bool.not_false, dBin, dInt, dStr, dBeq, dUn, dLoad, cellsAt, retV, retL, DR.val, fzT, fzVs, fzV, fz1, DV.immB, List.map_cons, List.map_nil, Option.map_some, Option.map_none, Bool.false_eq_true, false_implies, forall_const, Bool.true_eq_false, reduceCtorEq, implies_true, Int.toNat_natCast, Nat.zero_ne_one, Nat.one_ne_zero, Nat.reduceSub, List.length_cons, List.length_nil, List.getD_cons_zero, List.getD_cons_succ, Int.reduceToNat, IntKind.bits, Int.reducePow, Nat.reducePow, Nat.lt_add_one, Nat.zero_lt_one, Int.reduceLE, Int.reduceLT, Nat.reduceLeDiff, Nat.reduceLT, Nat.zero_add, IntKind.wrap_u64, IntKind.wrap_i64, IntKind.wrap_u8, decide_eq_true_eq, decide_eq_false_iff_not, Int.ofNat_lt, bsl_length, dCallP, viewVs, viewV, view1, viewL, noMemV, noMem, addP_p, specB1_at, specB2_at, List.all_cons, List.all_nil, Bool.and_true, Bool.and_false, Bool.true_and, Bool.false_and, not_true_eq_false, not_false_eq_true, List.getElem?_cons_zero, List.getElem?_cons_succ, List.set_cons_zero, List.set_cons_succ, elemsOf, dAppend, dStore, freezeAt, List.drop_zero, List.take_length, List.not_mem_nil, List.nil_append, fzLL, fzL, bRow, bU, cellsOf, true_or, or_true, or_false, false_or, or_self, setFrom, DV.isU, beq_self_eq_true, List.length_set, List.length_append, List.length_replicate, decide_true, decide_false, gt_iff_lt, ge_iff_le, slice_lo, slice_hi, slice_both, List.getElem?_nil, c6, c8, c9, c11, c12, c13, i1, b1, p1, g1, n1, n2, b2]
  | false =>
    obtain ⟨e3, e4⟩ := int_back l hb
    have b2 : fBack l = (True, .tup [.int .i64 (sgn l), .bool true]) := by unfold fBack; rw [hb, eq_true hs]; rfl
    have i2 : sInt [.int .i64 (sgn l)] = (True, .sl (bsl l)) := by
      have : sInt [.int .i64 (sgn l)] = (-9223372036854775808 ≤ sgn l ∧ sgn l < 9223372036854775808, .sl (bsl (intF (sgn l)))) := rfl
      rw [this, eq_true e4, e3]
    have s1 : fSame l l = (True, .bool true) := by unfold fSame; rw [eq_true hs]; simp
    simp only [d4, ↓dwp_skip, ↓dwp_ops, ↓dwp_seq, ↓dwp_block, ↓dwp_exit, ↓dwp_ret, ↓dwp_cond, dops_nil, dops_none, dops_some, ↓then_normal, ↓then_exit, ↓then_ret, ↓inBlock_normal, ↓inBlock_exit, ↓inBlock_ret, put_some, put_none, ev_t, ev_c, endP_normal, endP_ret, endH_normal, endH_ret, dval, frameFrom, get_cons, Nk.get_nil, Nat.reduceEqDiff, Nat.reduceAdd, ↓reduceIte, if_true, Nat.succ_ne_self, true_and, and_true, Bool.not_true, Bool.not_false, dBin, dInt, dStr, dBeq, dUn, dLoad, cellsAt, retV, retL, DR.val, fzT, fzVs, fzV, fz1, DV.immB, List.map_cons, List.map_nil, Option.map_some, Option.map_none, Bool.false_eq_true, false_implies, forall_const, Bool.true_eq_false, reduceCtorEq, implies_true, Int.toNat_natCast, Nat.zero_ne_one, Nat.one_ne_zero, Nat.reduceSub, List.length_cons, List.length_nil, List.getD_cons_zero, List.getD_cons_succ, Int.reduceToNat, IntKind.bits, Int.reducePow, Nat.reducePow, Nat.lt_add_one, Nat.zero_lt_one, Int.reduceLE, Int.reduceLT, Nat.reduceLeDiff, Nat.reduceLT, Nat.zero_add, IntKind.wrap_u64, IntKind.wrap_i64, IntKind.wrap_u8, decide_eq_true_eq, decide_eq_false_iff_not, Int.ofNat_lt, bsl_length, dCallP, viewVs, viewV, view1, viewL, noMemV, noMem, addP_p, specB1_at, specB2_at, List.all_cons, List.all_nil, Bool.and_true, Bool.and_false, Bool.true_and, Bool.false_and, not_true_eq_false, not_false_eq_true, List.getElem?_cons_zero, List.getElem?_cons_succ, List.set_cons_zero, List.set_cons_succ, elemsOf, dAppend, dStore, freezeAt, List.drop_zero, List.take_length, List.not_mem_nil, List.nil_append, fzLL, fzL, bRow, bU, cellsOf, true_or, or_true, or_false, false_or, or_self, setFrom, DV.isU, beq_self_eq_true, List.length_set, List.length_append, List.length_replicate, decide_true, decide_false, gt_iff_lt, ge_iff_le, slice_lo, slice_hi, slice_both, List.getElem?_nil, c6, c8, c9, c11, c12, c13, i1, b1, p1, g1, n1, n2, b2, i2, s1]

theorem back_tells (dvs : List DV) (h : HasAll Try.prog [2, 22] dvs) : TellsP Try.prog 4 dvs (.bool true) := by
  obtain ⟨d1, r, rfl, h1, d2, r', rfl, h2, rfl⟩ := h
  obtain ⟨x, rfl, hw⟩ := HasV_int Try.underlying2 h1
  obtain ⟨l, rfl, hl⟩ := HasV_bytes Try.underlying22 Try.underlying5 h2
  have hx : -9223372036854775808 ≤ x ∧ x ≤ 9223372036854775807 := by simpa [Lit.wf, IntKind.min, IntKind.max, IntKind.signed, IntKind.bits] using hw
  have : maxLen < 9223372036854775808 := by decide
  exact (tellsP_of ok14 (dargs := [.int .i64 x, .sl (bsl l)]) m4 (back_run x l ⟨hx.1, by omega⟩ (small_of (by omega)))).2

set_option maxRecDepth 100000 in
theorem back_lifted (os : Os) (started : os.Started) (H : Type) (enc : TypeId × Value → H) :
    ReturnsInHanded {} Try.checked os 4 .any (Rows.octetBackSpec.pre6 enc Try.prog Try.f4 Rows.octetBackRow.domain false) (Rows.octetBackSpec.post enc Try.prog Try.f4 false true false false) := by
  refine returnsInHanded_of_change (C := Try.checked) backOwn started (by kernel_rfl) Try.func4
    (ChangeSpec.witness6 (enc := enc) (C := Try.checked) false ⟨#[], #[.int .i64 0, .slice none 0 0], []⟩ 8 (by kernel_rfl) (by kernel_rfl) (by kernel_rfl) (by kernel_rfl)) ?_
  intro W base args ds gs before hval hW _ _
  refine law_contract (backBulk H) (tb := 4) (by kernel_rfl) (by kernel_rfl) Try.underlying4 rfl (fun l hl => ?_) hval hW fun dvs h _ => ?_
  · match l, hl with
    | [a, b], _ => exact ⟨rfl, rfl, rfl⟩
  · have e : Try.f4.params.toList = [2, 22] := by kernel_rfl
    rw [e] at h
    exact back_tells dvs h

theorem octetBack_holds : Rows.OctetBackSaid :=
  OpenClaim.holds_of_wide 4 Try.f4 rfl rfl rfl rfl rfl rfl rfl ⟨rfl, rfl, rfl, rfl, rfl⟩ rfl rfl rfl rfl rfl (by kernel_rfl) Try.func4 (by kernel_rfl)
    (of_decide_eq_true (by kernel_rfl)) (by unfold Func.isWrapper; first | (rw [if_pos (by decide +kernel)]; kernel_rfl) | (rw [if_neg (by decide +kernel)]; exact ⟨rfl, rfl⟩))
    (fun os started H enc _ => back_lifted os started H enc)
end Go.Proofs.Ytfcnfjaehpeclaa
