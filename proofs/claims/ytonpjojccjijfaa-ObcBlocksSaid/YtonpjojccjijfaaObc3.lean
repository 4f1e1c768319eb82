/- Classes; comparisons of clocks; statements with another clock. -/
import Derived.Test.YtonpjojccjijfaaObc2
set_option linter.all false
set_option maxRecDepth 20000
namespace Go.Proofs.Ytonpjojccjijfaa
open Go.Nk

structure EnumT where
  name : List UInt8
  ctors : List (List UInt8)
structure Flows where
  enums : List EnumT
  flows : List Flow
/-! clocks held against each other -/
def snEq (x y : SN) : Bool := x.s == y.s && x.n == y.n
theorem snEq_iff {x y : SN} : snEq x y = true ↔ x = y := by
  obtain ⟨a, b⟩ := x
  obtain ⟨a', b'⟩ := y
  simp [snEq]
def onEq (a b : List SN) : Bool := decide (a.length = b.length) && (a.zip b).all fun p => snEq p.1 p.2
theorem onEq_iff {a b : List SN} : onEq a b = true ↔ a = b := by
  unfold onEq
  induction a generalizing b with
  | nil => cases b <;> simp
  | cons x a ih =>
    cases b with
    | nil => simp
    | cons y b =>
      simp only [List.length_cons, Nat.add_right_cancel_iff, List.zip_cons_cons, List.all_cons, Bool.and_eq_true, decide_eq_true_eq, List.cons.injEq]
      have := ih (b := b)
      simp only [Bool.and_eq_true, decide_eq_true_eq] at this
      rw [snEq_iff, ← this]
      constructor
      · rintro ⟨h1, h2, h3⟩; exact ⟨h2, h1, h3⟩
      · rintro ⟨h1, h2, h3⟩; exact ⟨h2, h1, h3⟩
theorem eqSN (x y : SN) : eqCells [2, 0] [.str x.s, .int .i64 x.n] [.str y.s, .int .i64 y.n] = some (snEq x y) := by
  simp only [eqCells, if_true, snEq]
  cases (x.s == y.s) <;> cases (x.n == y.n) <;> rfl
theorem onEq_step {a b : List SN} {k : Nat} {x y : SN} (hx : a[k]? = some x) (hy : b[k]? = some y) (hl : a.length = b.length) (hk : a.take k = b.take k) : (snEq x y = true → a.take (k + 1) = b.take (k + 1)) ∧ (snEq x y = false → onEq a b = false) := by
  constructor
  · intro h
    rw [take_of hx, take_of hy, hk, snEq_iff.1 h]
  · intro h
    cases he : onEq a b with
    | false => rfl
    | true =>
      have := onEq_iff.1 he
      subst this
      rw [hx] at hy
      injection hy with hy
      subst hy
      have : snEq x x = true := snEq_iff.2 rfl
      rw [this] at h
      cases h

noncomputable def s_onEq : List DV → Prop × DV := spec2 (eL cSN) (eL cSN) fun a b => (lw any a ∧ lw any b, .bool (onEq a b))
theorem s_onEq_at (a b : List SN) : s_onEq [.sl (a.map cSN), .sl (b.map cSN)] = (lw any a ∧ lw any b, .bool (onEq a b)) := spec2_at (inj_L cSN_inj) (inj_L cSN_inj) _ a b

theorem ok_slices_Equal : OkP Try.prog 27 s_onEq := by
  refine OkP.mk2 (ps := []) (hs := []) trivial trivial m_slices_Equal_api_Cond_api_Cond fun a b h => ?_
  have hl : a.length < 9223372036854775808 := lw_len h.1
  by_cases hab : a.length = b.length
  · have d0 : ((a.length : Int) != (b.length : Int)) = false := by simp [hab]
    simp only [↓sqP, sqT, d_slices_Equal_api_Cond_api_Cond, if_false, ite_true, ite_false, eI, eU, eB, eS, eBs, eL, eA, List.cons_append, List.take_succ_cons, List.drop_succ_cons, buildCells, List.take_zero, List.take_nil, sepsD, sepB, hdl, ↓dwp_cond, dvalX, DOp.kind, dops_some, dval, frameFrom, Nat.reduceEqDiff, Nat.reduceAdd, ↓reduceIte, if_true, bne_self_eq_false, dBin, dInt, dStr, dBeq, dUn, dLoad, cellsAt, retV, retL, DR.val, fzT, fzVs, fzV, fz1, DV.immB, List.map_cons, List.map_nil, Option.map_some, Option.map_none, Bool.false_eq_true, forall_const, reduceCtorEq, implies_true, Nat.reduceSub, List.length_cons, List.length_nil, List.getD_cons_zero, List.getD_cons_succ, Int.reduceToNat, IntKind.bits, Int.reducePow, Nat.reducePow, Int.reduceLE, Int.reduceLT, Nat.reduceLeDiff, Nat.reduceLT, dCallP, viewVs, viewV, view1, capVL, capV, viewL, noMemV, noMem, List.all_cons, List.all_nil, List.getElem?_cons_zero, List.getElem?_cons_succ, List.set_cons_zero, List.set_set, List.set_cons_succ, elemsOf, dAppend, dAppz, dStore, DV.one, alive, freezeAt, List.drop_zero, List.take_length, List.not_mem_nil, List.forall_mem_cons, List.nil_append, fzLL, fzL, bRow, bU, cellsOf, setFrom, DV.isU, beq_self_eq_true, List.length_set, List.length_append, List.length_replicate, gt_iff_lt, ge_iff_le, List.getElem?_nil, Int.reduceBEq, Int.reduceBNe, Int.reduceEq, Int.reduceNe, Int.reduceAdd, Int.reduceSub, Int.reduceMul, Int.reduceNeg, Int.reduceTDiv, Int.reduceTMod, Int.reduceMod, Int.reduceDiv, ne_eq, List.cons.injEq, List.length_map, d0]
    refine dwp_loop (fun k : Nat => ⟨[(0, .sl (a.map cSN)), (1, .sl (b.map cSN)), (12, .int .i64 a.length), (13, .int .i64 k)], []⟩) (fun k => k ≤ a.length ∧ a.take k = b.take k) (fun k => a.length - k) 0 (by exact Nat.le_refl _) ?_ ⟨Nat.zero_le _, rfl⟩ fun k hk => ?_
    · simp only [cut_some, cut_none, List.map_cons, List.map_nil, get_cons, Nk.get_nil, Nat.reduceEqDiff, ↓reduceIte, Nat.succ_ne_self, DV.cut, DV.inB, DObj.cut, List.take_nil, List.take_zero, if_true, Nat.zero_ne_one, Nat.one_ne_zero, DV.inBL, Bool.and_true, Bool.true_and, reduceCtorEq, Nat.zero_lt_one, decide_true, decide_false, Nat.reduceLT, List.take_succ_cons]; rfl
    · by_cases hlt : k < a.length
      · obtain ⟨x, hx⟩ : ∃ x, a[k]? = some x := ⟨a[k], by simp [hlt]⟩
        obtain ⟨y, hy⟩ : ∃ x, b[k]? = some x := ⟨b[k], by simp [← hab, hlt]⟩
        have hrx := map_getD cSN hx
        have hry := map_getD cSN hy
        have wk := wk_of hlt hl
        have hk0 : (0 : Int) ≤ k := by omega
        have hkl : (k : Int) < (a.length : Int) := by omega
        have hkb : k < b.length := by omega
        obtain ⟨s1, s2⟩ := onEq_step hx hy hab hk.2
        cases hq : snEq x y with
        | true =>
          simp only [↓sqP, sqT, if_false, ite_true, ite_false, eI, eU, eB, eS, eBs, eL, eA, List.cons_append, List.take_succ_cons, List.drop_succ_cons, buildCells, List.take_zero, List.take_nil, sepsD, sepB, hdl, ↓dwp_cond, dvalX, DOp.kind, dops_some, dval, frameFrom, Nat.reduceEqDiff, Nat.reduceAdd, ↓reduceIte, if_true, bne_self_eq_false, dBin, dInt, dStr, dBeq, dUn, dLoad, cellsAt, retV, retL, DR.val, fzT, fzVs, fzV, fz1, DV.immB, List.map_cons, List.map_nil, Option.map_some, Option.map_none, Bool.false_eq_true, forall_const, reduceCtorEq, implies_true, Nat.reduceSub, List.length_cons, List.length_nil, List.getD_cons_zero, List.getD_cons_succ, Int.reduceToNat, IntKind.bits, Int.reducePow, Nat.reducePow, Int.reduceLE, Int.reduceLT, Nat.reduceLeDiff, Nat.reduceLT, dCallP, viewVs, viewV, view1, capVL, capV, viewL, noMemV, noMem, List.all_cons, List.all_nil, List.getElem?_cons_zero, List.getElem?_cons_succ, List.set_cons_zero, List.set_set, List.set_cons_succ, elemsOf, dAppend, dAppz, dStore, DV.one, alive, freezeAt, List.drop_zero, List.take_length, List.not_mem_nil, List.forall_mem_cons, List.nil_append, fzLL, fzL, bRow, bU, cellsOf, setFrom, DV.isU, beq_self_eq_true, List.length_set, List.length_append, List.length_replicate, gt_iff_lt, ge_iff_le, List.getElem?_nil, Int.reduceBEq, Int.reduceBNe, Int.reduceEq, Int.reduceNe, Int.reduceAdd, Int.reduceSub, Int.reduceMul, Int.reduceNeg, Int.reduceTDiv, Int.reduceTMod, Int.reduceMod, Int.reduceDiv, ne_eq, List.cons.injEq, List.length_map, hlt, hkb, hrx, hry, hk0, hkl, wk, dAeq, eqSN, hq]
          exact ⟨k + 1, by simp only [cut_some, cut_none, List.map_cons, List.map_nil, get_cons, Nk.get_nil, Nat.reduceEqDiff, ↓reduceIte, Nat.succ_ne_self, DV.cut, DV.inB, DObj.cut, List.take_nil, List.take_zero, if_true, Nat.zero_ne_one, Nat.one_ne_zero, DV.inBL, Bool.and_true, Bool.true_and, reduceCtorEq, Nat.zero_lt_one, decide_true, decide_false, Nat.reduceLT, List.take_succ_cons], ⟨by omega, s1 hq⟩, by omega⟩
        | false =>
          simp only [↓sqP, sqT, if_false, ite_true, ite_false, eI, eU, eB, eS, eBs, eL, eA, List.cons_append, List.take_succ_cons, List.drop_succ_cons, buildCells, List.take_zero, List.take_nil, sepsD, sepB, hdl, ↓dwp_cond, dvalX, DOp.kind, dops_some, dval, frameFrom, Nat.reduceEqDiff, Nat.reduceAdd, ↓reduceIte, if_true, bne_self_eq_false, dBin, dInt, dStr, dBeq, dUn, dLoad, cellsAt, retV, retL, DR.val, fzT, fzVs, fzV, fz1, DV.immB, List.map_cons, List.map_nil, Option.map_some, Option.map_none, Bool.false_eq_true, forall_const, reduceCtorEq, implies_true, Nat.reduceSub, List.length_cons, List.length_nil, List.getD_cons_zero, List.getD_cons_succ, Int.reduceToNat, IntKind.bits, Int.reducePow, Nat.reducePow, Int.reduceLE, Int.reduceLT, Nat.reduceLeDiff, Nat.reduceLT, dCallP, viewVs, viewV, view1, capVL, capV, viewL, noMemV, noMem, List.all_cons, List.all_nil, List.getElem?_cons_zero, List.getElem?_cons_succ, List.set_cons_zero, List.set_set, List.set_cons_succ, elemsOf, dAppend, dAppz, dStore, DV.one, alive, freezeAt, List.drop_zero, List.take_length, List.not_mem_nil, List.forall_mem_cons, List.nil_append, fzLL, fzL, bRow, bU, cellsOf, setFrom, DV.isU, beq_self_eq_true, List.length_set, List.length_append, List.length_replicate, gt_iff_lt, ge_iff_le, List.getElem?_nil, Int.reduceBEq, Int.reduceBNe, Int.reduceEq, Int.reduceNe, Int.reduceAdd, Int.reduceSub, Int.reduceMul, Int.reduceNeg, Int.reduceTDiv, Int.reduceTMod, Int.reduceMod, Int.reduceDiv, ne_eq, List.cons.injEq, List.length_map, hlt, hkb, hrx, hry, hk0, hkl, wk, dAeq, eqSN, hq, s2 hq]
      · have e : onEq a b = true := by
          rw [onEq_iff]
          have := hk.2
          rw [List.take_of_length_le (by omega), List.take_of_length_le (by omega)] at this
          exact this
        simp only [↓sqP, sqT, if_false, ite_true, ite_false, eI, eU, eB, eS, eBs, eL, eA, List.cons_append, List.take_succ_cons, List.drop_succ_cons, buildCells, List.take_zero, List.take_nil, sepsD, sepB, hdl, ↓dwp_cond, dvalX, DOp.kind, dops_some, dval, frameFrom, Nat.reduceEqDiff, Nat.reduceAdd, ↓reduceIte, if_true, bne_self_eq_false, dBin, dInt, dStr, dBeq, dUn, dLoad, cellsAt, retV, retL, DR.val, fzT, fzVs, fzV, fz1, DV.immB, List.map_cons, List.map_nil, Option.map_some, Option.map_none, Bool.false_eq_true, forall_const, reduceCtorEq, implies_true, Nat.reduceSub, List.length_cons, List.length_nil, List.getD_cons_zero, List.getD_cons_succ, Int.reduceToNat, IntKind.bits, Int.reducePow, Nat.reducePow, Int.reduceLE, Int.reduceLT, Nat.reduceLeDiff, Nat.reduceLT, dCallP, viewVs, viewV, view1, capVL, capV, viewL, noMemV, noMem, List.all_cons, List.all_nil, List.getElem?_cons_zero, List.getElem?_cons_succ, List.set_cons_zero, List.set_set, List.set_cons_succ, elemsOf, dAppend, dAppz, dStore, DV.one, alive, freezeAt, List.drop_zero, List.take_length, List.not_mem_nil, List.forall_mem_cons, List.nil_append, fzLL, fzL, bRow, bU, cellsOf, setFrom, DV.isU, beq_self_eq_true, List.length_set, List.length_append, List.length_replicate, gt_iff_lt, ge_iff_le, List.getElem?_nil, Int.reduceBEq, Int.reduceBNe, Int.reduceEq, Int.reduceNe, Int.reduceAdd, Int.reduceSub, Int.reduceMul, Int.reduceNeg, Int.reduceTDiv, Int.reduceTMod, Int.reduceMod, Int.reduceDiv, ne_eq, List.cons.injEq, List.length_map, hlt, e]
  · have d0 : ((a.length : Int) != (b.length : Int)) = true := by simp; omega
    have e : onEq a b = false := by simp [onEq, hab]
    simp only [↓sqP, sqT, d_slices_Equal_api_Cond_api_Cond, if_false, ite_true, ite_false, eI, eU, eB, eS, eBs, eL, eA, List.cons_append, List.take_succ_cons, List.drop_succ_cons, buildCells, List.take_zero, List.take_nil, sepsD, sepB, hdl, ↓dwp_cond, dvalX, DOp.kind, dops_some, dval, frameFrom, Nat.reduceEqDiff, Nat.reduceAdd, ↓reduceIte, if_true, bne_self_eq_false, dBin, dInt, dStr, dBeq, dUn, dLoad, cellsAt, retV, retL, DR.val, fzT, fzVs, fzV, fz1, DV.immB, List.map_cons, List.map_nil, Option.map_some, Option.map_none, Bool.false_eq_true, forall_const, reduceCtorEq, implies_true, Nat.reduceSub, List.length_cons, List.length_nil, List.getD_cons_zero, List.getD_cons_succ, Int.reduceToNat, IntKind.bits, Int.reducePow, Nat.reducePow, Int.reduceLE, Int.reduceLT, Nat.reduceLeDiff, Nat.reduceLT, dCallP, viewVs, viewV, view1, capVL, capV, viewL, noMemV, noMem, List.all_cons, List.all_nil, List.getElem?_cons_zero, List.getElem?_cons_succ, List.set_cons_zero, List.set_set, List.set_cons_succ, elemsOf, dAppend, dAppz, dStore, DV.one, alive, freezeAt, List.drop_zero, List.take_length, List.not_mem_nil, List.forall_mem_cons, List.nil_append, fzLL, fzL, bRow, bU, cellsOf, setFrom, DV.isU, beq_self_eq_true, List.length_set, List.length_append, List.length_replicate, gt_iff_lt, ge_iff_le, List.getElem?_nil, Int.reduceBEq, Int.reduceBNe, Int.reduceEq, Int.reduceNe, Int.reduceAdd, Int.reduceSub, Int.reduceMul, Int.reduceNeg, Int.reduceTDiv, Int.reduceTMod, Int.reduceMod, Int.reduceDiv, ne_eq, List.cons.injEq, List.length_map, d0, e]

noncomputable def s_together : List DV → Prop × DV := spec2 (eA cStmt) (eA cStmt) fun a b => (lw any a.q.on ∧ lw any b.q.on, .bool (onEq a.q.on b.q.on))
theorem s_together_at (a b : Stmt) : s_together [.agg (cStmt a), .agg (cStmt b)] = (lw any a.q.on ∧ lw any b.q.on, .bool (onEq a.q.on b.q.on)) := spec2_at (inj_A cStmt_inj) (inj_A cStmt_inj) _ a b
theorem ok_together : OkP Try.prog 23 s_together := by
  refine OkP.mk2 (ps := [(27, s_onEq)]) (hs := []) ⟨ok_slices_Equal, trivial⟩ trivial m_obc_together fun a b h => ?_
  have e := s_onEq_at a.q.on b.q.on
  have h1 : lw any a.q.on := h.1
  have h2 : lw any b.q.on := h.2
  simp only [↓sqP, sqT, d_obc_together, if_false, ite_true, ite_false, eI, eU, eB, eS, eBs, eL, eA, List.cons_append, List.take_succ_cons, List.drop_succ_cons, buildCells, List.take_zero, List.take_nil, sepsD, sepB, hdl, ↓dwp_cond, dvalX, DOp.kind, dops_some, dval, frameFrom, Nat.reduceEqDiff, Nat.reduceAdd, ↓reduceIte, if_true, bne_self_eq_false, dBin, dInt, dStr, dBeq, dUn, dLoad, cellsAt, retV, retL, DR.val, fzT, fzVs, fzV, fz1, DV.immB, List.map_cons, List.map_nil, Option.map_some, Option.map_none, Bool.false_eq_true, forall_const, reduceCtorEq, implies_true, Nat.reduceSub, List.length_cons, List.length_nil, List.getD_cons_zero, List.getD_cons_succ, Int.reduceToNat, IntKind.bits, Int.reducePow, Nat.reducePow, Int.reduceLE, Int.reduceLT, Nat.reduceLeDiff, Nat.reduceLT, dCallP, viewVs, viewV, view1, capVL, capV, viewL, noMemV, noMem, List.all_cons, List.all_nil, List.getElem?_cons_zero, List.getElem?_cons_succ, List.set_cons_zero, List.set_set, List.set_cons_succ, elemsOf, dAppend, dAppz, dStore, DV.one, alive, freezeAt, List.drop_zero, List.take_length, List.not_mem_nil, List.forall_mem_cons, List.nil_append, fzLL, fzL, bRow, bU, cellsOf, setFrom, DV.isU, beq_self_eq_true, List.length_set, List.length_append, List.length_replicate, gt_iff_lt, ge_iff_le, List.getElem?_nil, Int.reduceBEq, Int.reduceBNe, Int.reduceEq, Int.reduceNe, Int.reduceAdd, Int.reduceSub, Int.reduceMul, Int.reduceNeg, Int.reduceTDiv, Int.reduceTMod, Int.reduceMod, Int.reduceDiv, ne_eq, List.cons.injEq, e, h1, h2]
end Go.Proofs.Ytonpjojccjijfaa
