/- OctetPuts: whatever the input, it answers true and its arguments read as they did. No condition. -/
import Derived.Test.YtfcnfjaehpeclaaLive
import Derived.Test.YtfcnfjaehpeclaaRows
import Derived.Test.YtfcnfjaehpeclaaNkX
import Derived.WalkKit
import Derived.ProofKit
import Derived.JoinedOf
set_option linter.unusedSimpArgs false
set_option linter.unusedVariables false
namespace Go.Proofs.Ytfcnfjaehpeclaa
open Go.Nk Go.ChangeShapes Go.WideShapes Go.RowKit

theorem putsBulk (H : Type) : Bulk (H := H) Rows.uptoBulk Rows.uptoBulkAll where
  lit l := by cases l <;> simp [Rows.uptoBulk]
  str s := by simp [Rows.uptoBulk]
  nil := by simp [Rows.uptoBulk]
  ptr d := by simp [Rows.uptoBulk]
  slice a b := by simp only [Rows.uptoBulk]; omega
  agg a := by simp only [Rows.uptoBulk]; omega
  cons d r := by simp [Rows.uptoBulkAll]

theorem putsOwn : ownKnob Try.prog.godebug = none := by kernel_rfl

theorem puts_run (v n : Int) (l : List UInt8) (h : 0 ≤ v ∧ v < 18446744073709551616) (hs : small l) :
    dwp C14 0 d5.code (EndP d5.res (.bool true)) ⟨frameFrom 0 [.int .u64 v, .int .i64 n, .sl (bsl l)], []⟩ := by
  have c8 : ∀ a, C14.p 8 a = specB2 fSame a := fun _ => rfl
  have c11 : C14.p 11 [] = (True, .bool true) := rfl
  have c12 : ∀ a, C14.p 12 a = specB1 fGet a := fun _ => rfl
  have c13 : ∀ a, C14.p 13 a = sPut a := fun _ => rfl
  have c14 : ∀ a, C14.p 14 a = sPut a := fun _ => rfl
  have c15 : ∀ a, C14.p 15 a = specB1 fGet a := fun _ => rfl
  have c16 : ∀ a, C14.p 16 a = specB2 fSame a := fun _ => rfl
  by_cases hl : 1000 < l.length
  · have hl' : (1000 : Int) < (l.length : Int) := by omega
    simp only [d5, ↓dwp_skip, ↓dwp_ops, ↓dwp_seq, ↓dwp_block, ↓dwp_exit, ↓dwp_ret, ↓dwp_cond, dops_nil, dops_none, dops_some, ↓then_normal, ↓then_exit, ↓then_ret, ↓inBlock_normal, ↓inBlock_exit, ↓inBlock_ret, put_some, put_none, ev_t, ev_c, endP_normal, endP_ret, endH_normal, endH_ret, dval, frameFrom, get_cons, Nk.get_nil, Nat.reduceEqDiff, Nat.reduceAdd, ↓reduceIte, if_true, Nat.succ_ne_self, true_and, and_true, Bool.not_true, Bool.not_false, dBin, dInt, dStr, dBeq, dUn, dLoad, cellsAt, retV, retL, DR.val, fzT, fzVs, fzV, fz1, DV.immB, List.map_cons, List.map_nil, Option.map_some, Option.map_none, Bool.false_eq_true, false_implies, forall_const, Bool.true_eq_false, reduceCtorEq, implies_true, Int.toNat_natCast, Nat.zero_ne_one, Nat.one_ne_zero, Nat.reduceSub, List.length_cons, List.length_nil, List.getD_cons_zero, List.getD_cons_succ, Int.reduceToNat, IntKind.bits, Int.reducePow, Nat.reducePow, Nat.lt_add_one, Nat.zero_lt_one, Int.reduceLE, Int.reduceLT, Nat.reduceLeDiff, Nat.reduceLT, Nat.zero_add, IntKind.wrap_u64, IntKind.wrap_i64, IntKind.wrap_u8, decide_eq_true_eq, decide_eq_false_iff_not, Int.ofNat_lt, bsl_length, dCallP, viewVs, viewV, view1, viewL, noMemV, noMem, addP_p, specB1_at, specB2_at, List.all_cons, List.all_nil, Bool.and_true, Bool.and_false, Bool.true_and, Bool.false_and, not_true_eq_false, not_false_eq_true, List.getElem?_cons_zero, List.getElem?_cons_succ, List.set_cons_zero, List.set_cons_succ, elemsOf, dAppend, dStore, freezeAt, List.drop_zero, List.take_length, List.not_mem_nil, List.nil_append, fzLL, fzL, bRow, bU, cellsOf, true_or, or_true, or_false, false_or, or_self, setFrom, DV.isU, beq_self_eq_true, List.length_set, List.length_append, List.length_replicate, decide_true, decide_false, gt_iff_lt, ge_iff_le, slice_lo, slice_hi, slice_both, List.getElem?_nil, c11, hl']
  have hl' : ¬ (1000 : Int) < (l.length : Int) := by omega
  obtain ⟨L, hL, p1⟩ : ∃ L, small L ∧ sPut [.int .u64 v, .int .i64 n] = (True, .sl (bsl L)) := by
    refine ⟨if n < 1 ∨ 8 < n then [] else putL v.toNat n.toNat, ?_, ?_⟩
    · unfold small
      split
      · simp
      · rw [putL_length]; omega
    · have : sPut [.int .u64 v, .int .i64 n] = (0 ≤ v ∧ v < 18446744073709551616, .sl (bsl (if n < 1 ∨ 8 < n then [] else putL v.toNat n.toNat))) := rfl
      rw [this, eq_true h]
  have s1 : fSame L L = (True, .bool true) := by unfold fSame; rw [eq_true hL]; simp
  have s2 : fSame l L = (True, .bool (l == L)) := by unfold fSame; rw [eq_true hL, eq_true hs]; simp
  have g1 : fGet l = (True, .int .u64 (getF l)) := by unfold fGet; rw [eq_true hs]
  generalize hq : (l == L) = q at s2
  cases q <;> simp only [d5, ↓dwp_skip, ↓dwp_ops, ↓dwp_seq, ↓dwp_block, ↓dwp_exit, ↓dwp_ret, ↓dwp_cond, dops_nil, dops_none, dops_some, ↓then_normal, ↓then_exit, ↓then_ret, ↓inBlock_normal, ↓inBlock_exit, ↓inBlock_ret, put_some, put_none, ev_t, ev_c, endP_normal, endP_ret, endH_normal, endH_ret, dval, frameFrom, get_cons, Nk.get_nil, Nat.reduceEqDiff, Nat.reduceAdd, ↓reduceIte, if_true, Nat.succ_ne_self, true_and, and_true, Bool.not_true, Bool.not_false, dBin, dInt, dStr, dBeq, dUn, dLoad, cellsAt, retV, retL, DR.val, fzT, fzVs, fzV, fz1, DV.immB, List.map_cons, List.map_nil, Option.map_some, Option.map_none, Bool.false_eq_true, false_implies, forall_const, Bool.true_eq_false, reduceCtorEq, implies_true, Int.toNat_natCast, Nat.zero_ne_one, Nat.one_ne_zero, Nat.reduceSub, List.length_cons, List.length_nil, List.getD_cons_zero, List.getD_cons_succ, Int.reduceToNat, IntKind.bits, Int.reducePow, Nat.reducePow, Nat.lt_add_one, Nat.zero_lt_one, Int.reduceLE, Int.reduceLT, Nat.reduceLeDiff, Nat.reduceLT, Nat.zero_add, IntKind.wrap_u64, IntKind.wrap_i64, IntKind.wrap_u8, decide_eq_true_eq, decide_eq_false_iff_not, Int.ofNat_lt, bsl_length, dCallP, viewVs, viewV, view1, viewL, noMemV, noMem, addP_p, specB1_at, specB2_at, List.all_cons, List.all_nil, Bool.and_true, Bool.and_false, Bool.true_and, Bool.false_and, not_true_eq_false, not_false_eq_true, List.getElem?_cons_zero, List.getElem?_cons_succ, List.set_cons_zero, List.set_cons_succ, elemsOf, dAppend, dStore, freezeAt, List.drop_zero, List.take_length, List.not_mem_nil, List.nil_append, fzLL, fzL, bRow, bU, cellsOf, true_or, or_true, or_false, false_or, or_self, setFrom, DV.isU, beq_self_eq_true, List.length_set, List.length_append, List.length_replicate, decide_true, decide_false, gt_iff_lt, ge_iff_le, slice_lo, slice_hi, slice_both, List.getElem?_nil, c8, c11, c12, c13, c14, c15, c16, hl', p1, s1, s2, g1]

theorem puts_tells (dvs : List DV) (h : HasAll Try.prog [29, 3, 22] dvs) : TellsP Try.prog 5 dvs (.bool true) := by
  obtain ⟨d1, r, rfl, h1, d2, r', rfl, h2, d3, r'', rfl, h3, rfl⟩ := h
  obtain ⟨v, rfl, hw⟩ := HasV_int Try.underlying29 h1
  obtain ⟨n, rfl, _⟩ := HasV_int Try.underlying3 h2
  obtain ⟨l, rfl, hl⟩ := HasV_bytes Try.underlying22 Try.underlying5 h3
  have hx : 0 ≤ v ∧ v ≤ 18446744073709551615 := by simpa [Lit.wf, IntKind.min, IntKind.max, IntKind.signed, IntKind.bits] using hw
  have : maxLen < 9223372036854775808 := by decide
  exact (tellsP_of ok14 (dargs := [.int .u64 v, .int .i64 n, .sl (bsl l)]) m5 (puts_run v n l ⟨hx.1, by omega⟩ (small_of (by omega)))).2

set_option maxRecDepth 100000 in
theorem puts_lifted (os : Os) (started : os.Started) (H : Type) (enc : TypeId × Value → H) :
    ReturnsInHanded {} Try.checked os 5 .any (Rows.octetPutsSpec.pre6 enc Try.prog Try.f5 Rows.octetPutsRow.domain false) (Rows.octetPutsSpec.post enc Try.prog Try.f5 false true false false) := by
  refine returnsInHanded_of_change (C := Try.checked) putsOwn started (by kernel_rfl) Try.func5
    (ChangeSpec.witness6 (enc := enc) (C := Try.checked) false ⟨#[], #[.int .u64 0, .int .i64 0, .slice none 0 0], []⟩ 8 (by kernel_rfl) (by kernel_rfl) (by kernel_rfl) (by kernel_rfl)) ?_
  intro W base args ds gs before hval hW _ _
  refine law_contract (putsBulk H) (tb := 4) (by kernel_rfl) (by kernel_rfl) Try.underlying4 rfl (fun l hl => ?_) hval hW fun dvs h _ => ?_
  · match l, hl with
    | [a, b, c], _ => exact ⟨rfl, rfl, rfl⟩
  · have e : Try.f5.params.toList = [29, 3, 22] := by kernel_rfl
    rw [e] at h
    exact puts_tells dvs h

theorem octetPuts_holds : Rows.OctetPutsSaid :=
  OpenClaim.holds_of_wide 5 Try.f5 rfl rfl rfl rfl rfl rfl rfl ⟨rfl, rfl, rfl, rfl, rfl⟩ rfl rfl rfl rfl rfl (by kernel_rfl) Try.func5 (by kernel_rfl)
    (of_decide_eq_true (by kernel_rfl)) (by unfold Func.isWrapper; first | (rw [if_pos (by decide +kernel)]; kernel_rfl) | (rw [if_neg (by decide +kernel)]; exact ⟨rfl, rfl⟩))
    (fun os started H enc _ => puts_lifted os started H enc)
end Go.Proofs.Ytfcnfjaehpeclaa
