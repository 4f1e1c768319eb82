/- Plain equations as statements: what each function tells. -/
import Derived.Test.YtonpjojccjijfaaFlow25
set_option linter.all false
set_option maxRecDepth 20000
namespace Go.Proofs.Ytonpjojccjijfaa
open Go.Nk

theorem cStr_inj : ∀ x y, cStr x = cStr y → x = y := fun x y h => by
  simp only [cStr, List.cons.injEq, DV.str.injEq, and_true] at h
  exact h
theorem cInt_inj : ∀ x y, cInt x = cInt y → x = y := fun x y h => by
  simp only [cInt, List.cons.injEq, DV.int.injEq, true_and, and_true] at h
  exact h
theorem cSN_inj : ∀ x y, cSN x = cSN y → x = y := by
  rintro ⟨a, b⟩ ⟨a', b'⟩ h
  simp only [cSN, List.cons.injEq, DV.str.injEq, DV.int.injEq, true_and, and_true] at h
  obtain ⟨rfl, rfl⟩ := h
  rfl
theorem cPlain_inj : ∀ x y, cPlain x = cPlain y → x = y := by
  rintro ⟨a, b, c, d, e, f, g, h, i, j⟩ ⟨a', b', c', d', e', f', g', h', i', j'⟩ hh
  simp only [cPlain, List.cons.injEq, DV.str.injEq, DV.int.injEq, DV.sl.injEq, DV.bool.injEq, true_and, and_true] at hh
  obtain ⟨rfl, h1, rfl, h2, h3, rfl, rfl, rfl, rfl, h4⟩ := hh
  rw [map_inj cStr_inj _ _ h1, map_inj cSN_inj _ _ h2, map_inj cInt_inj _ _ h3, map_inj cSN_inj _ _ h4]
theorem cStmt_inj : ∀ x y, cStmt x = cStmt y → x = y := by
  rintro ⟨a, q⟩ ⟨a', q'⟩ h
  have h' := List.cons.inj h
  injection h'.1 with _ h1
  subst h1
  rw [cPlain_inj q q' h'.2]
theorem cVar_inj : ∀ x y, cVar x = cVar y → x = y := by
  rintro ⟨a, b, c, d, e⟩ ⟨a', b', c', d', e'⟩ hh
  simp only [cVar, List.cons.injEq, DV.str.injEq, DV.int.injEq, DV.sl.injEq, true_and, and_true] at hh
  obtain ⟨rfl, rfl, rfl, rfl, h4⟩ := hh
  rw [map_inj cSN_inj _ _ h4]
theorem cFlow_inj : ∀ x y, cFlow x = cFlow y → x = y := by
  rintro ⟨a, b, c, d, e⟩ ⟨a', b', c', d', e'⟩ hh
  simp only [cFlow, List.cons.injEq, DV.str.injEq, DV.sl.injEq, true_and, and_true] at hh
  obtain ⟨rfl, h1, h2, h3, h4⟩ := hh
  rw [map_inj cVar_inj _ _ h1, map_inj cVar_inj _ _ h2, map_inj cVar_inj _ _ h3, map_inj cPlain_inj _ _ h4]
theorem cCls_inj : ∀ x y, cCls x = cCls y → x = y := by
  rintro ⟨a, b, c, d, e⟩ ⟨a', b', c', d', e'⟩ hh
  simp only [cCls, List.cons.injEq, DV.str.injEq, DV.sl.injEq, true_and, and_true] at hh
  obtain ⟨rfl, h1, h2, h3, h4⟩ := hh
  rw [map_inj cVar_inj _ _ h1, map_inj cVar_inj _ _ h2, map_inj cVar_inj _ _ h3, map_inj cStmt_inj _ _ h4]
theorem cBlk_inj : ∀ x y, cBlk x = cBlk y → x = y := by
  rintro ⟨a, b⟩ ⟨a', b'⟩ hh
  simp only [cBlk, List.cons.injEq, DV.sl.injEq, and_true] at hh
  rw [map_inj cSN_inj _ _ hh.1, map_inj cStmt_inj _ _ hh.2]

theorem take_of {α : Type} {l : List α} {k : Nat} {x : α} (h : l[k]? = some x) : l.take (k + 1) = l.take k ++ [x] := by
  rw [List.take_add_one, h]; rfl

/-! kind -/
def kF (k : Int) : Int := if k = 5 then 2 else if k = 7 then 4 else 1
noncomputable def s_kind : List DV → Prop × DV := spec1 (eA cPlain) fun q => (True, .int .i64 (kF q.kind))
theorem s_kind_at (q : Plain) : s_kind [.agg (cPlain q)] = (True, .int .i64 (kF q.kind)) := spec1_at (inj_A cPlain_inj) _ q
theorem ok_obc_kind : OkP Try.prog 20 s_kind := by
  refine OkP.mk1 (ps := []) (hs := []) trivial trivial m_obc_kind fun q _ => ?_
  by_cases h5 : q.kind = 5
  · have e5 : (q.kind == 5) = true := by simp [h5]
    have : kF q.kind = 2 := by simp [kF, h5]
    simp only [↓sqP, sqT, d_obc_kind, if_false, ite_true, ite_false, eI, eU, eB, eS, eBs, eL, eA, List.cons_append, List.take_succ_cons, List.drop_succ_cons, buildCells, List.take_zero, List.take_nil, sepsD, sepB, hdl, ↓dwp_cond, dvalX, DOp.kind, dops_some, dval, frameFrom, Nat.reduceEqDiff, Nat.reduceAdd, ↓reduceIte, if_true, bne_self_eq_false, dBin, dInt, dStr, dBeq, dUn, dLoad, cellsAt, retV, retL, DR.val, fzT, fzVs, fzV, fz1, DV.immB, List.map_cons, List.map_nil, Option.map_some, Option.map_none, Bool.false_eq_true, forall_const, reduceCtorEq, implies_true, Nat.reduceSub, List.length_cons, List.length_nil, List.getD_cons_zero, List.getD_cons_succ, Int.reduceToNat, IntKind.bits, Int.reducePow, Nat.reducePow, Int.reduceLE, Int.reduceLT, Nat.reduceLeDiff, Nat.reduceLT, dCallP, viewVs, viewV, view1, capVL, capV, viewL, noMemV, noMem, List.all_cons, List.all_nil, List.getElem?_cons_zero, List.getElem?_cons_succ, List.set_cons_zero, List.set_set, List.set_cons_succ, elemsOf, dAppend, dAppz, dStore, DV.one, alive, freezeAt, List.drop_zero, List.take_length, List.not_mem_nil, List.forall_mem_cons, List.nil_append, fzLL, fzL, bRow, bU, cellsOf, setFrom, DV.isU, beq_self_eq_true, List.length_set, List.length_append, List.length_replicate, gt_iff_lt, ge_iff_le, List.getElem?_nil, Int.reduceBEq, Int.reduceBNe, Int.reduceEq, Int.reduceNe, Int.reduceAdd, Int.reduceSub, Int.reduceMul, Int.reduceNeg, Int.reduceTDiv, Int.reduceTMod, Int.reduceMod, Int.reduceDiv, ne_eq, List.cons.injEq, e5, this]
  have e5 : (q.kind == 5) = false := by simp [h5]
  by_cases h7 : q.kind = 7
  · have e7 : (q.kind == 7) = true := by simp [h7]
    have : kF q.kind = 4 := by simp [kF, h7]
    simp only [↓sqP, sqT, d_obc_kind, if_false, ite_true, ite_false, eI, eU, eB, eS, eBs, eL, eA, List.cons_append, List.take_succ_cons, List.drop_succ_cons, buildCells, List.take_zero, List.take_nil, sepsD, sepB, hdl, ↓dwp_cond, dvalX, DOp.kind, dops_some, dval, frameFrom, Nat.reduceEqDiff, Nat.reduceAdd, ↓reduceIte, if_true, bne_self_eq_false, dBin, dInt, dStr, dBeq, dUn, dLoad, cellsAt, retV, retL, DR.val, fzT, fzVs, fzV, fz1, DV.immB, List.map_cons, List.map_nil, Option.map_some, Option.map_none, Bool.false_eq_true, forall_const, reduceCtorEq, implies_true, Nat.reduceSub, List.length_cons, List.length_nil, List.getD_cons_zero, List.getD_cons_succ, Int.reduceToNat, IntKind.bits, Int.reducePow, Nat.reducePow, Int.reduceLE, Int.reduceLT, Nat.reduceLeDiff, Nat.reduceLT, dCallP, viewVs, viewV, view1, capVL, capV, viewL, noMemV, noMem, List.all_cons, List.all_nil, List.getElem?_cons_zero, List.getElem?_cons_succ, List.set_cons_zero, List.set_set, List.set_cons_succ, elemsOf, dAppend, dAppz, dStore, DV.one, alive, freezeAt, List.drop_zero, List.take_length, List.not_mem_nil, List.forall_mem_cons, List.nil_append, fzLL, fzL, bRow, bU, cellsOf, setFrom, DV.isU, beq_self_eq_true, List.length_set, List.length_append, List.length_replicate, gt_iff_lt, ge_iff_le, List.getElem?_nil, Int.reduceBEq, Int.reduceBNe, Int.reduceEq, Int.reduceNe, Int.reduceAdd, Int.reduceSub, Int.reduceMul, Int.reduceNeg, Int.reduceTDiv, Int.reduceTMod, Int.reduceMod, Int.reduceDiv, ne_eq, List.cons.injEq, e5, e7, this]
  have e7 : (q.kind == 7) = false := by simp [h7]
  have : kF q.kind = 1 := by simp [kF, h5, h7]
  simp only [↓sqP, sqT, d_obc_kind, if_false, ite_true, ite_false, eI, eU, eB, eS, eBs, eL, eA, List.cons_append, List.take_succ_cons, List.drop_succ_cons, buildCells, List.take_zero, List.take_nil, sepsD, sepB, hdl, ↓dwp_cond, dvalX, DOp.kind, dops_some, dval, frameFrom, Nat.reduceEqDiff, Nat.reduceAdd, ↓reduceIte, if_true, bne_self_eq_false, dBin, dInt, dStr, dBeq, dUn, dLoad, cellsAt, retV, retL, DR.val, fzT, fzVs, fzV, fz1, DV.immB, List.map_cons, List.map_nil, Option.map_some, Option.map_none, Bool.false_eq_true, forall_const, reduceCtorEq, implies_true, Nat.reduceSub, List.length_cons, List.length_nil, List.getD_cons_zero, List.getD_cons_succ, Int.reduceToNat, IntKind.bits, Int.reducePow, Nat.reducePow, Int.reduceLE, Int.reduceLT, Nat.reduceLeDiff, Nat.reduceLT, dCallP, viewVs, viewV, view1, capVL, capV, viewL, noMemV, noMem, List.all_cons, List.all_nil, List.getElem?_cons_zero, List.getElem?_cons_succ, List.set_cons_zero, List.set_set, List.set_cons_succ, elemsOf, dAppend, dAppz, dStore, DV.one, alive, freezeAt, List.drop_zero, List.take_length, List.not_mem_nil, List.forall_mem_cons, List.nil_append, fzLL, fzL, bRow, bU, cellsOf, setFrom, DV.isU, beq_self_eq_true, List.length_set, List.length_append, List.length_replicate, gt_iff_lt, ge_iff_le, List.getElem?_nil, Int.reduceBEq, Int.reduceBNe, Int.reduceEq, Int.reduceNe, Int.reduceAdd, Int.reduceSub, Int.reduceMul, Int.reduceNeg, Int.reduceTDiv, Int.reduceTMod, Int.reduceMod, Int.reduceDiv, ne_eq, List.cons.injEq, e5, e7, this]

/-! few -/
def fewQ (q : Plain) : Bool := decide (q.names.length ≤ 10) && (decide (q.args.length ≤ 10) && decide (q.on.length ≤ 10))
def fewF (f : Flow) : Bool := f.eqs.all fewQ && decide (f.eqs.length ≤ 60)
noncomputable def s_few : List DV → Prop × DV := spec1 (eA cFlow) fun f => (wFlow f, .bool (fewF f))
theorem s_few_at (f : Flow) : s_few [.agg (cFlow f)] = (wFlow f, .bool (fewF f)) := spec1_at (inj_A cFlow_inj) _ f

theorem ok_few : OkP Try.prog 18 s_few := by
  refine OkP.mk1 (ps := []) (hs := []) trivial trivial m_noriaref22_few fun f h => ?_
  have hl : f.eqs.length < 9223372036854775808 := lw_len h.2.2.2
  simp only [↓sqP, sqT, d_noriaref22_few, if_false, ite_true, ite_false, eI, eU, eB, eS, eBs, eL, eA, List.cons_append, List.take_succ_cons, List.drop_succ_cons, buildCells, List.take_zero, List.take_nil, sepsD, sepB, hdl, ↓dwp_cond, dvalX, DOp.kind, dops_some, dval, frameFrom, Nat.reduceEqDiff, Nat.reduceAdd, ↓reduceIte, if_true, bne_self_eq_false, dBin, dInt, dStr, dBeq, dUn, dLoad, cellsAt, retV, retL, DR.val, fzT, fzVs, fzV, fz1, DV.immB, List.map_cons, List.map_nil, Option.map_some, Option.map_none, Bool.false_eq_true, forall_const, reduceCtorEq, implies_true, Nat.reduceSub, List.length_cons, List.length_nil, List.getD_cons_zero, List.getD_cons_succ, Int.reduceToNat, IntKind.bits, Int.reducePow, Nat.reducePow, Int.reduceLE, Int.reduceLT, Nat.reduceLeDiff, Nat.reduceLT, dCallP, viewVs, viewV, view1, capVL, capV, viewL, noMemV, noMem, List.all_cons, List.all_nil, List.getElem?_cons_zero, List.getElem?_cons_succ, List.set_cons_zero, List.set_set, List.set_cons_succ, elemsOf, dAppend, dAppz, dStore, DV.one, alive, freezeAt, List.drop_zero, List.take_length, List.not_mem_nil, List.forall_mem_cons, List.nil_append, fzLL, fzL, bRow, bU, cellsOf, setFrom, DV.isU, beq_self_eq_true, List.length_set, List.length_append, List.length_replicate, gt_iff_lt, ge_iff_le, List.getElem?_nil, Int.reduceBEq, Int.reduceBNe, Int.reduceEq, Int.reduceNe, Int.reduceAdd, Int.reduceSub, Int.reduceMul, Int.reduceNeg, Int.reduceTDiv, Int.reduceTMod, Int.reduceMod, Int.reduceDiv, ne_eq, List.cons.injEq, List.length_map]
  refine dwp_loop (fun k : Nat => ⟨[(1, .ref (cFlow f)), (3, .int .i64 k)], []⟩) (fun k => k ≤ f.eqs.length ∧ (f.eqs.take k).all fewQ = true) (fun k => f.eqs.length - k) 0 (by exact Nat.zero_le _) ?_ ⟨Nat.zero_le _, rfl⟩ fun k hk => ?_
  · simp only [cut_some, cut_none, List.map_cons, List.map_nil, get_cons, Nk.get_nil, Nat.reduceEqDiff, ↓reduceIte, Nat.succ_ne_self, DV.cut, DV.inB, DObj.cut, List.take_nil, List.take_zero, if_true, Nat.zero_ne_one, Nat.one_ne_zero, DV.inBL, Bool.and_true, Bool.true_and, reduceCtorEq, Nat.zero_lt_one, decide_true, decide_false, Nat.reduceLT, List.take_succ_cons]; rfl
  · by_cases hlt : k < f.eqs.length
    · obtain ⟨x, hx⟩ : ∃ x, f.eqs[k]? = some x := ⟨f.eqs[k], by simp [hlt]⟩
      have hrow := map_getD cPlain hx
      have wk := wk_of hlt hl
      have hk0 : (0 : Int) ≤ k := by omega
      have hkl : (k : Int) < (f.eqs.length : Int) := by omega
      have bad : fewQ x = false → fewF f = false := fun hq => by
        have : f.eqs.all fewQ = false := by
          rw [List.all_eq_false]
          exact ⟨x, List.mem_of_getElem? hx, by simp [hq]⟩
        simp [fewF, this]
      by_cases h1 : (10 : Int) < x.names.length
      · have q : fewF f = false := bad (by simp [fewQ]; omega)
        have d1 : decide ((10 : Int) < (x.names.length : Int)) = true := by simp; omega
        simp only [↓sqP, sqT, if_false, ite_true, ite_false, eI, eU, eB, eS, eBs, eL, eA, List.cons_append, List.take_succ_cons, List.drop_succ_cons, buildCells, List.take_zero, List.take_nil, sepsD, sepB, hdl, ↓dwp_cond, dvalX, DOp.kind, dops_some, dval, frameFrom, Nat.reduceEqDiff, Nat.reduceAdd, ↓reduceIte, if_true, bne_self_eq_false, dBin, dInt, dStr, dBeq, dUn, dLoad, cellsAt, retV, retL, DR.val, fzT, fzVs, fzV, fz1, DV.immB, List.map_cons, List.map_nil, Option.map_some, Option.map_none, Bool.false_eq_true, forall_const, reduceCtorEq, implies_true, Nat.reduceSub, List.length_cons, List.length_nil, List.getD_cons_zero, List.getD_cons_succ, Int.reduceToNat, IntKind.bits, Int.reducePow, Nat.reducePow, Int.reduceLE, Int.reduceLT, Nat.reduceLeDiff, Nat.reduceLT, dCallP, viewVs, viewV, view1, capVL, capV, viewL, noMemV, noMem, List.all_cons, List.all_nil, List.getElem?_cons_zero, List.getElem?_cons_succ, List.set_cons_zero, List.set_set, List.set_cons_succ, elemsOf, dAppend, dAppz, dStore, DV.one, alive, freezeAt, List.drop_zero, List.take_length, List.not_mem_nil, List.forall_mem_cons, List.nil_append, fzLL, fzL, bRow, bU, cellsOf, setFrom, DV.isU, beq_self_eq_true, List.length_set, List.length_append, List.length_replicate, gt_iff_lt, ge_iff_le, List.getElem?_nil, Int.reduceBEq, Int.reduceBNe, Int.reduceEq, Int.reduceNe, Int.reduceAdd, Int.reduceSub, Int.reduceMul, Int.reduceNeg, Int.reduceTDiv, Int.reduceTMod, Int.reduceMod, Int.reduceDiv, ne_eq, List.cons.injEq, List.length_map, hlt, hrow, hk0, hkl, wk, d1, q]
      have d1 : decide ((10 : Int) < (x.names.length : Int)) = false := by simp; omega
      by_cases h2 : (10 : Int) < x.args.length
      · have q : fewF f = false := bad (by simp [fewQ]; omega)
        have d2 : decide ((10 : Int) < (x.args.length : Int)) = true := by simp; omega
        simp only [↓sqP, sqT, if_false, ite_true, ite_false, eI, eU, eB, eS, eBs, eL, eA, List.cons_append, List.take_succ_cons, List.drop_succ_cons, buildCells, List.take_zero, List.take_nil, sepsD, sepB, hdl, ↓dwp_cond, dvalX, DOp.kind, dops_some, dval, frameFrom, Nat.reduceEqDiff, Nat.reduceAdd, ↓reduceIte, if_true, bne_self_eq_false, dBin, dInt, dStr, dBeq, dUn, dLoad, cellsAt, retV, retL, DR.val, fzT, fzVs, fzV, fz1, DV.immB, List.map_cons, List.map_nil, Option.map_some, Option.map_none, Bool.false_eq_true, forall_const, reduceCtorEq, implies_true, Nat.reduceSub, List.length_cons, List.length_nil, List.getD_cons_zero, List.getD_cons_succ, Int.reduceToNat, IntKind.bits, Int.reducePow, Nat.reducePow, Int.reduceLE, Int.reduceLT, Nat.reduceLeDiff, Nat.reduceLT, dCallP, viewVs, viewV, view1, capVL, capV, viewL, noMemV, noMem, List.all_cons, List.all_nil, List.getElem?_cons_zero, List.getElem?_cons_succ, List.set_cons_zero, List.set_set, List.set_cons_succ, elemsOf, dAppend, dAppz, dStore, DV.one, alive, freezeAt, List.drop_zero, List.take_length, List.not_mem_nil, List.forall_mem_cons, List.nil_append, fzLL, fzL, bRow, bU, cellsOf, setFrom, DV.isU, beq_self_eq_true, List.length_set, List.length_append, List.length_replicate, gt_iff_lt, ge_iff_le, List.getElem?_nil, Int.reduceBEq, Int.reduceBNe, Int.reduceEq, Int.reduceNe, Int.reduceAdd, Int.reduceSub, Int.reduceMul, Int.reduceNeg, Int.reduceTDiv, Int.reduceTMod, Int.reduceMod, Int.reduceDiv, ne_eq, List.cons.injEq, List.length_map, hlt, hrow, hk0, hkl, wk, d1, d2, q]
      have d2 : decide ((10 : Int) < (x.args.length : Int)) = false := by simp; omega
      by_cases h3 : (10 : Int) < x.on.length
      · have q : fewF f = false := bad (by simp [fewQ]; omega)
        have d3 : decide ((10 : Int) < (x.on.length : Int)) = true := by simp; omega
        simp only [↓sqP, sqT, if_false, ite_true, ite_false, eI, eU, eB, eS, eBs, eL, eA, List.cons_append, List.take_succ_cons, List.drop_succ_cons, buildCells, List.take_zero, List.take_nil, sepsD, sepB, hdl, ↓dwp_cond, dvalX, DOp.kind, dops_some, dval, frameFrom, Nat.reduceEqDiff, Nat.reduceAdd, ↓reduceIte, if_true, bne_self_eq_false, dBin, dInt, dStr, dBeq, dUn, dLoad, cellsAt, retV, retL, DR.val, fzT, fzVs, fzV, fz1, DV.immB, List.map_cons, List.map_nil, Option.map_some, Option.map_none, Bool.false_eq_true, forall_const, reduceCtorEq, implies_true, Nat.reduceSub, List.length_cons, List.length_nil, List.getD_cons_zero, List.getD_cons_succ, Int.reduceToNat, IntKind.bits, Int.reducePow, Nat.reducePow, Int.reduceLE, Int.reduceLT, Nat.reduceLeDiff, Nat.reduceLT, dCallP, viewVs, viewV, view1, capVL, capV, viewL, noMemV, noMem, List.all_cons, List.all_nil, List.getElem?_cons_zero, List.getElem?_cons_succ, List.set_cons_zero, List.set_set, List.set_cons_succ, elemsOf, dAppend, dAppz, dStore, DV.one, alive, freezeAt, List.drop_zero, List.take_length, List.not_mem_nil, List.forall_mem_cons, List.nil_append, fzLL, fzL, bRow, bU, cellsOf, setFrom, DV.isU, beq_self_eq_true, List.length_set, List.length_append, List.length_replicate, gt_iff_lt, ge_iff_le, List.getElem?_nil, Int.reduceBEq, Int.reduceBNe, Int.reduceEq, Int.reduceNe, Int.reduceAdd, Int.reduceSub, Int.reduceMul, Int.reduceNeg, Int.reduceTDiv, Int.reduceTMod, Int.reduceMod, Int.reduceDiv, ne_eq, List.cons.injEq, List.length_map, hlt, hrow, hk0, hkl, wk, d1, d2, d3, q]
      have d3 : decide ((10 : Int) < (x.on.length : Int)) = false := by simp; omega
      simp only [↓sqP, sqT, if_false, ite_true, ite_false, eI, eU, eB, eS, eBs, eL, eA, List.cons_append, List.take_succ_cons, List.drop_succ_cons, buildCells, List.take_zero, List.take_nil, sepsD, sepB, hdl, ↓dwp_cond, dvalX, DOp.kind, dops_some, dval, frameFrom, Nat.reduceEqDiff, Nat.reduceAdd, ↓reduceIte, if_true, bne_self_eq_false, dBin, dInt, dStr, dBeq, dUn, dLoad, cellsAt, retV, retL, DR.val, fzT, fzVs, fzV, fz1, DV.immB, List.map_cons, List.map_nil, Option.map_some, Option.map_none, Bool.false_eq_true, forall_const, reduceCtorEq, implies_true, Nat.reduceSub, List.length_cons, List.length_nil, List.getD_cons_zero, List.getD_cons_succ, Int.reduceToNat, IntKind.bits, Int.reducePow, Nat.reducePow, Int.reduceLE, Int.reduceLT, Nat.reduceLeDiff, Nat.reduceLT, dCallP, viewVs, viewV, view1, capVL, capV, viewL, noMemV, noMem, List.all_cons, List.all_nil, List.getElem?_cons_zero, List.getElem?_cons_succ, List.set_cons_zero, List.set_set, List.set_cons_succ, elemsOf, dAppend, dAppz, dStore, DV.one, alive, freezeAt, List.drop_zero, List.take_length, List.not_mem_nil, List.forall_mem_cons, List.nil_append, fzLL, fzL, bRow, bU, cellsOf, setFrom, DV.isU, beq_self_eq_true, List.length_set, List.length_append, List.length_replicate, gt_iff_lt, ge_iff_le, List.getElem?_nil, Int.reduceBEq, Int.reduceBNe, Int.reduceEq, Int.reduceNe, Int.reduceAdd, Int.reduceSub, Int.reduceMul, Int.reduceNeg, Int.reduceTDiv, Int.reduceTMod, Int.reduceMod, Int.reduceDiv, ne_eq, List.cons.injEq, List.length_map, hlt, hrow, hk0, hkl, wk, d1, d2, d3]
      refine ⟨k + 1, by simp only [cut_some, cut_none, List.map_cons, List.map_nil, get_cons, Nk.get_nil, Nat.reduceEqDiff, ↓reduceIte, Nat.succ_ne_self, DV.cut, DV.inB, DObj.cut, List.take_nil, List.take_zero, if_true, Nat.zero_ne_one, Nat.one_ne_zero, DV.inBL, Bool.and_true, Bool.true_and, reduceCtorEq, Nat.zero_lt_one, decide_true, decide_false, Nat.reduceLT, List.take_succ_cons], ⟨by omega, ?_⟩, by omega⟩
      rw [take_of hx, List.all_append, hk.2]
      simp [fewQ]; omega
    · have e : k = f.eqs.length := by omega
      have q : fewF f = decide ((f.eqs.length : Int) ≤ 60) := by
        have := hk.2
        rw [List.take_of_length_le (by omega)] at this
        simp only [fewF, this, Bool.true_and]
        congr 1; apply propext; omega
      simp only [↓sqP, sqT, if_false, ite_true, ite_false, eI, eU, eB, eS, eBs, eL, eA, List.cons_append, List.take_succ_cons, List.drop_succ_cons, buildCells, List.take_zero, List.take_nil, sepsD, sepB, hdl, ↓dwp_cond, dvalX, DOp.kind, dops_some, dval, frameFrom, Nat.reduceEqDiff, Nat.reduceAdd, ↓reduceIte, if_true, bne_self_eq_false, dBin, dInt, dStr, dBeq, dUn, dLoad, cellsAt, retV, retL, DR.val, fzT, fzVs, fzV, fz1, DV.immB, List.map_cons, List.map_nil, Option.map_some, Option.map_none, Bool.false_eq_true, forall_const, reduceCtorEq, implies_true, Nat.reduceSub, List.length_cons, List.length_nil, List.getD_cons_zero, List.getD_cons_succ, Int.reduceToNat, IntKind.bits, Int.reducePow, Nat.reducePow, Int.reduceLE, Int.reduceLT, Nat.reduceLeDiff, Nat.reduceLT, dCallP, viewVs, viewV, view1, capVL, capV, viewL, noMemV, noMem, List.all_cons, List.all_nil, List.getElem?_cons_zero, List.getElem?_cons_succ, List.set_cons_zero, List.set_set, List.set_cons_succ, elemsOf, dAppend, dAppz, dStore, DV.one, alive, freezeAt, List.drop_zero, List.take_length, List.not_mem_nil, List.forall_mem_cons, List.nil_append, fzLL, fzL, bRow, bU, cellsOf, setFrom, DV.isU, beq_self_eq_true, List.length_set, List.length_append, List.length_replicate, gt_iff_lt, ge_iff_le, List.getElem?_nil, Int.reduceBEq, Int.reduceBNe, Int.reduceEq, Int.reduceNe, Int.reduceAdd, Int.reduceSub, Int.reduceMul, Int.reduceNeg, Int.reduceTDiv, Int.reduceTMod, Int.reduceMod, Int.reduceDiv, ne_eq, List.cons.injEq, List.length_map, hlt, q]
theorem ok_Few : OkP Try.prog 6 s_few := by
  refine OkP.mk1 (ps := [(18, s_few)]) (hs := []) ⟨ok_few, trivial⟩ trivial m_noriaref22_Few fun f h => ?_
  have h' : wFlow f := h
  have e := s_few_at f
  simp only [cFlow] at e
  simp only [↓sqP, sqT, d_noriaref22_Few, if_false, ite_true, ite_false, eI, eU, eB, eS, eBs, eL, eA, List.cons_append, List.take_succ_cons, List.drop_succ_cons, buildCells, List.take_zero, List.take_nil, sepsD, sepB, hdl, ↓dwp_cond, dvalX, DOp.kind, dops_some, dval, frameFrom, Nat.reduceEqDiff, Nat.reduceAdd, ↓reduceIte, if_true, bne_self_eq_false, dBin, dInt, dStr, dBeq, dUn, dLoad, cellsAt, retV, retL, DR.val, fzT, fzVs, fzV, fz1, DV.immB, List.map_cons, List.map_nil, Option.map_some, Option.map_none, Bool.false_eq_true, forall_const, reduceCtorEq, implies_true, Nat.reduceSub, List.length_cons, List.length_nil, List.getD_cons_zero, List.getD_cons_succ, Int.reduceToNat, IntKind.bits, Int.reducePow, Nat.reducePow, Int.reduceLE, Int.reduceLT, Nat.reduceLeDiff, Nat.reduceLT, dCallP, viewVs, viewV, view1, capVL, capV, viewL, noMemV, noMem, List.all_cons, List.all_nil, List.getElem?_cons_zero, List.getElem?_cons_succ, List.set_cons_zero, List.set_set, List.set_cons_succ, elemsOf, dAppend, dAppz, dStore, DV.one, alive, freezeAt, List.drop_zero, List.take_length, List.not_mem_nil, List.forall_mem_cons, List.nil_append, fzLL, fzL, bRow, bU, cellsOf, setFrom, DV.isU, beq_self_eq_true, List.length_set, List.length_append, List.length_replicate, gt_iff_lt, ge_iff_le, List.getElem?_nil, Int.reduceBEq, Int.reduceBNe, Int.reduceEq, Int.reduceNe, Int.reduceAdd, Int.reduceSub, Int.reduceMul, Int.reduceNeg, Int.reduceTDiv, Int.reduceTMod, Int.reduceMod, Int.reduceDiv, ne_eq, List.cons.injEq, e, h']
end Go.Proofs.Ytonpjojccjijfaa
