/- Groups, and blocks. -/
import Derived.Test.YtonpjojccjijfaaObc4
set_option linter.all false
set_option maxRecDepth 20000
namespace Go.Proofs.Ytonpjojccjijfaa
open Go.Nk

def zS : Stmt := ⟨0, ⟨0, [], 0, [], [], 0, false, [], 0, []⟩⟩
def brk (l : List Stmt) (k : Nat) : Bool := decide (k + 1 = l.length) || !(onEq (l.getD k zS).q.on (l.getD (k + 1) zS).q.on)
def gFrom (l : List Stmt) : Nat → Nat → Nat → List (List Stmt) → List (List Stmt)
  | 0, _, _, G => G
  | r + 1, k, fm, G => if brk l k then gFrom l r (k + 1) (k + 1) (G ++ [(l.take (k + 1)).drop fm]) else gFrom l r (k + 1) fm G
def grpF (l : List Stmt) : List (List Stmt) := gFrom l l.length 0 0 []
@[reducible] def cGrp (g : List Stmt) : List DV := [.sl (g.map cStmt)]

noncomputable def s_groups : List DV → Prop × DV := spec2 (eL cStmt) (fun _ : Unit => DV.clo 23 []) fun l _ => (l.length ≤ 1000000 ∧ ∀ s ∈ l, wStmt s, .sl ((grpF l).map cGrp))
theorem s_groups_at (l : List Stmt) : s_groups [.sl (l.map cStmt), .clo 23 []] = (l.length ≤ 1000000 ∧ ∀ s ∈ l, wStmt s, .sl ((grpF l).map cGrp)) := spec2_at (e := eL cStmt) (e' := fun _ : Unit => DV.clo 23 []) (inj_L cStmt_inj) (fun _ _ _ => rfl) _ l ()

theorem gFrom_len (l : List Stmt) : ∀ r k fm G, G.length ≤ (gFrom l r k fm G).length ∧ (gFrom l r k fm G).length ≤ G.length + r
  | 0, _, _, _ => ⟨Nat.le_refl _, Nat.le_refl _⟩
  | r + 1, k, fm, G => by
    unfold gFrom
    split
    · have := gFrom_len l r (k + 1) (k + 1) (G ++ [(l.take (k + 1)).drop fm])
      simp at this
      omega
    · have := gFrom_len l r (k + 1) fm G
      omega

theorem ok_groups : OkP Try.prog 22 s_groups := by
  refine OkP.mk2 (ps := [(23, s_together)]) (hs := []) ⟨ok_together, trivial⟩ trivial m_obc_groups_api_Stmt fun l _ h => ?_
  have hl : l.length ≤ 1000000 := h.1
  simp only [↓sqP, sqT, d_obc_groups_api_Stmt, if_false, ite_true, ite_false, eI, eU, eB, eS, eBs, eL, eA, List.cons_append, List.take_succ_cons, List.drop_succ_cons, buildCells, List.take_zero, List.take_nil, sepsD, sepB, hdl, ↓dwp_cond, dvalX, DOp.kind, dops_some, dval, frameFrom, Nat.reduceEqDiff, Nat.reduceAdd, ↓reduceIte, if_true, bne_self_eq_false, dBin, dInt, dStr, dBeq, dUn, dLoad, cellsAt, retV, retL, DR.val, fzT, fzVs, fzV, fz1, DV.immB, List.map_cons, List.map_nil, Option.map_some, Option.map_none, Bool.false_eq_true, forall_const, reduceCtorEq, implies_true, Nat.reduceSub, List.length_cons, List.length_nil, List.getD_cons_zero, List.getD_cons_succ, Int.reduceToNat, IntKind.bits, Int.reducePow, Nat.reducePow, Int.reduceLE, Int.reduceLT, Nat.reduceLeDiff, Nat.reduceLT, dCallP, viewVs, viewV, view1, capVL, capV, viewL, noMemV, noMem, List.all_cons, List.all_nil, List.getElem?_cons_zero, List.getElem?_cons_succ, List.set_cons_zero, List.set_set, List.set_cons_succ, elemsOf, dAppend, dAppz, dStore, DV.one, alive, freezeAt, List.drop_zero, List.take_length, List.not_mem_nil, List.forall_mem_cons, List.nil_append, fzLL, fzL, bRow, bU, cellsOf, setFrom, DV.isU, beq_self_eq_true, List.length_set, List.length_append, List.length_replicate, gt_iff_lt, ge_iff_le, List.getElem?_nil, Int.reduceBEq, Int.reduceBNe, Int.reduceEq, Int.reduceNe, Int.reduceAdd, Int.reduceSub, Int.reduceMul, Int.reduceNeg, Int.reduceTDiv, Int.reduceTMod, Int.reduceMod, Int.reduceDiv, ne_eq, List.cons.injEq, List.length_map]
  refine dwp_loop (fun x : Nat × Nat × List (List Stmt) => ⟨[(0, .sl (l.map cStmt)), (1, .clo 23 []), (5, .own 0 x.2.2.length 0 x.2.2.length), (6, .int .i64 x.2.1), (9, .int .i64 l.length), (10, .int .i64 x.1)], [⟨.imm, 1, x.2.2.map cGrp⟩]⟩)
    (fun x => x.1 ≤ l.length ∧ x.2.1 ≤ x.1 ∧ x.2.2.length ≤ x.1 ∧ gFrom l (l.length - x.1) x.1 x.2.1 x.2.2 = grpF l) (fun x => l.length - x.1) (0, 0, []) (by exact Nat.zero_le _) ?_ ⟨Nat.zero_le _, Nat.le_refl _, Nat.le_refl _, rfl⟩ fun x hx => ?_
  · simp only [cut_some, cut_none, List.map_cons, List.map_nil, get_cons, Nk.get_nil, Nat.reduceEqDiff, ↓reduceIte, Nat.succ_ne_self, DV.cut, DV.inB, DObj.cut, List.take_nil, List.take_zero, if_true, Nat.zero_ne_one, Nat.one_ne_zero, DV.inBL, Bool.and_true, Bool.true_and, reduceCtorEq, Nat.zero_lt_one, decide_true, decide_false, Nat.reduceLT, List.take_succ_cons]; rfl
  obtain ⟨k, fm, G⟩ := x
  obtain ⟨hk, hf, hG, hg⟩ := hx
  simp only at hk hf hG hg ⊢
  by_cases hlt : k < l.length
  · obtain ⟨x, hx⟩ : ∃ x, l[k]? = some x := ⟨l[k], by simp [hlt]⟩
    have hrow := map_getD cStmt hx
    have wk := wk_of hlt (by omega)
    have hk0 : (0 : Int) ≤ k := by omega
    have hkl : (k : Int) < (l.length : Int) := by omega
    have hwx : lw any x.q.on := (h.2 x (List.mem_of_getElem? hx)).2.2.2
    have hgx : l.getD k zS = x := by simp [List.getD, hx]
    have hsub : l.length - k = (l.length - (k + 1)) + 1 := by omega
    rw [hsub] at hg
    unfold gFrom at hg
    have b1 : G.length + 1 ≤ lenMax := by unfold lenMax; omega
    have cnt : ((k + 1 : Nat) : Int) = ((k + 1 : Nat) : Int) := rfl
    have sl : dSlice [⟨.imm, 1, G.map cGrp⟩] 11 (.sl (l.map cStmt)) (some (.int .i64 fm)) (some (.int .i64 ((k + 1 : Nat) : Int))) (some (.int .i64 ((k + 1 : Nat) : Int))) = (True, .sl (((l.take (k + 1)).drop fm).map cStmt)) := by
      simp only [dSlice, dBound, List.length_map, Option.isSome_some, Int.toNat_natCast, List.map_take, List.map_drop, Prod.mk.injEq, and_true]
      refine eq_true ⟨rows11 l, trivial, trivial, trivial, by simp, by omega, by omega, Int.le_refl _, by omega⟩
    have stop : brk l k = true → gFrom l (l.length - (k + 1)) (k + 1) (k + 1) (G ++ [(l.take (k + 1)).drop fm]) = grpF l := fun hb => by rw [if_pos hb] at hg; exact hg
    have go : brk l k = false → gFrom l (l.length - (k + 1)) (k + 1) fm G = grpF l := fun hb => by rw [if_neg (by simp [hb])] at hg; exact hg
    by_cases hlast : k + 1 = l.length
    · have hb : brk l k = true := by simp [brk, hlast]
      have d1 : (((k + 1 : Nat) : Int) == (l.length : Int)) = true := by simp; omega
      simp only [↓sqP, sqT, if_false, ite_true, ite_false, eI, eU, eB, eS, eBs, eL, eA, List.cons_append, List.take_succ_cons, List.drop_succ_cons, buildCells, List.take_zero, List.take_nil, sepsD, sepB, hdl, ↓dwp_cond, dvalX, DOp.kind, dops_some, dval, frameFrom, Nat.reduceEqDiff, Nat.reduceAdd, ↓reduceIte, if_true, bne_self_eq_false, dBin, dInt, dStr, dBeq, dUn, dLoad, cellsAt, retV, retL, DR.val, fzT, fzVs, fzV, fz1, DV.immB, List.map_cons, List.map_nil, Option.map_some, Option.map_none, Bool.false_eq_true, forall_const, reduceCtorEq, implies_true, Nat.reduceSub, List.length_cons, List.length_nil, List.getD_cons_zero, List.getD_cons_succ, Int.reduceToNat, IntKind.bits, Int.reducePow, Nat.reducePow, Int.reduceLE, Int.reduceLT, Nat.reduceLeDiff, Nat.reduceLT, dCallP, viewVs, viewV, view1, capVL, capV, viewL, noMemV, noMem, List.all_cons, List.all_nil, List.getElem?_cons_zero, List.getElem?_cons_succ, List.set_cons_zero, List.set_set, List.set_cons_succ, elemsOf, dAppend, dAppz, dStore, DV.one, alive, freezeAt, List.drop_zero, List.take_length, List.not_mem_nil, List.forall_mem_cons, List.nil_append, fzLL, fzL, bRow, bU, cellsOf, setFrom, DV.isU, beq_self_eq_true, List.length_set, List.length_append, List.length_replicate, gt_iff_lt, ge_iff_le, List.getElem?_nil, Int.reduceBEq, Int.reduceBNe, Int.reduceEq, Int.reduceNe, Int.reduceAdd, Int.reduceSub, Int.reduceMul, Int.reduceNeg, Int.reduceTDiv, Int.reduceTMod, Int.reduceMod, Int.reduceDiv, ne_eq, List.cons.injEq, List.length_map, hlt, hrow, hk0, hkl, wk, d1, sl, b1]
      refine ⟨(k + 1, k + 1, G ++ [(l.take (k + 1)).drop fm]), ?_, ⟨by simp only; omega, Nat.le_refl _, by simp; omega, stop hb⟩, by simp only; omega⟩
      simp only [cut_some, cut_none, List.map_cons, List.map_nil, get_cons, Nk.get_nil, Nat.reduceEqDiff, ↓reduceIte, Nat.succ_ne_self, DV.cut, DV.inB, DObj.cut, List.take_nil, List.take_zero, if_true, Nat.zero_ne_one, Nat.one_ne_zero, DV.inBL, Bool.and_true, Bool.true_and, reduceCtorEq, Nat.zero_lt_one, decide_true, decide_false, Nat.reduceLT, List.take_succ_cons, List.map_append, List.length_append, List.length_cons, List.length_nil, Nat.zero_add, cGrp]
    · have d1 : (((k + 1 : Nat) : Int) == (l.length : Int)) = false := by simp; omega
      have hlt2 : k + 1 < l.length := by omega
      obtain ⟨y, hy⟩ : ∃ x, l[k + 1]? = some x := ⟨l[k + 1], by simp [hlt2]⟩
      have hrow2 := map_getD cStmt hy
      have hgy : l.getD (k + 1) zS = y := by simp [List.getD, hy]
      have hwy : lw any y.q.on := (h.2 y (List.mem_of_getElem? hy)).2.2.2
      have hk1 : (0 : Int) ≤ ((k + 1 : Nat) : Int) := by omega
      have et := s_together_at x y
      simp only [cStmt] at et
      have hbr : brk l k = !(onEq x.q.on y.q.on) := by simp only [brk, hgx, hgy]; simp [hlast]
      cases hq : onEq x.q.on y.q.on with
      | true =>
        rw [hq] at hbr
        simp only [↓sqP, sqT, if_false, ite_true, ite_false, eI, eU, eB, eS, eBs, eL, eA, List.cons_append, List.take_succ_cons, List.drop_succ_cons, buildCells, List.take_zero, List.take_nil, sepsD, sepB, hdl, ↓dwp_cond, dvalX, DOp.kind, dops_some, dval, frameFrom, Nat.reduceEqDiff, Nat.reduceAdd, ↓reduceIte, if_true, bne_self_eq_false, dBin, dInt, dStr, dBeq, dUn, dLoad, cellsAt, retV, retL, DR.val, fzT, fzVs, fzV, fz1, DV.immB, List.map_cons, List.map_nil, Option.map_some, Option.map_none, Bool.false_eq_true, forall_const, reduceCtorEq, implies_true, Nat.reduceSub, List.length_cons, List.length_nil, List.getD_cons_zero, List.getD_cons_succ, Int.reduceToNat, IntKind.bits, Int.reducePow, Nat.reducePow, Int.reduceLE, Int.reduceLT, Nat.reduceLeDiff, Nat.reduceLT, dCallP, viewVs, viewV, view1, capVL, capV, viewL, noMemV, noMem, List.all_cons, List.all_nil, List.getElem?_cons_zero, List.getElem?_cons_succ, List.set_cons_zero, List.set_set, List.set_cons_succ, elemsOf, dAppend, dAppz, dStore, DV.one, alive, freezeAt, List.drop_zero, List.take_length, List.not_mem_nil, List.forall_mem_cons, List.nil_append, fzLL, fzL, bRow, bU, cellsOf, setFrom, DV.isU, beq_self_eq_true, List.length_set, List.length_append, List.length_replicate, gt_iff_lt, ge_iff_le, List.getElem?_nil, Int.reduceBEq, Int.reduceBNe, Int.reduceEq, Int.reduceNe, Int.reduceAdd, Int.reduceSub, Int.reduceMul, Int.reduceNeg, Int.reduceTDiv, Int.reduceTMod, Int.reduceMod, Int.reduceDiv, ne_eq, List.cons.injEq, List.length_map, hlt, hlt2, hrow, hrow2, hk0, hk1, hkl, wk, d1, et, hwx, hwy, hq]
        refine ⟨(k + 1, fm, G), ?_, ⟨by simp only; omega, by simp only; omega, by simp only; omega, go hbr⟩, by simp only; omega⟩
        simp only [cut_some, cut_none, List.map_cons, List.map_nil, get_cons, Nk.get_nil, Nat.reduceEqDiff, ↓reduceIte, Nat.succ_ne_self, DV.cut, DV.inB, DObj.cut, List.take_nil, List.take_zero, if_true, Nat.zero_ne_one, Nat.one_ne_zero, DV.inBL, Bool.and_true, Bool.true_and, reduceCtorEq, Nat.zero_lt_one, decide_true, decide_false, Nat.reduceLT, List.take_succ_cons]
      | false =>
        rw [hq] at hbr
        simp only [↓sqP, sqT, if_false, ite_true, ite_false, eI, eU, eB, eS, eBs, eL, eA, List.cons_append, List.take_succ_cons, List.drop_succ_cons, buildCells, List.take_zero, List.take_nil, sepsD, sepB, hdl, ↓dwp_cond, dvalX, DOp.kind, dops_some, dval, frameFrom, Nat.reduceEqDiff, Nat.reduceAdd, ↓reduceIte, if_true, bne_self_eq_false, dBin, dInt, dStr, dBeq, dUn, dLoad, cellsAt, retV, retL, DR.val, fzT, fzVs, fzV, fz1, DV.immB, List.map_cons, List.map_nil, Option.map_some, Option.map_none, Bool.false_eq_true, forall_const, reduceCtorEq, implies_true, Nat.reduceSub, List.length_cons, List.length_nil, List.getD_cons_zero, List.getD_cons_succ, Int.reduceToNat, IntKind.bits, Int.reducePow, Nat.reducePow, Int.reduceLE, Int.reduceLT, Nat.reduceLeDiff, Nat.reduceLT, dCallP, viewVs, viewV, view1, capVL, capV, viewL, noMemV, noMem, List.all_cons, List.all_nil, List.getElem?_cons_zero, List.getElem?_cons_succ, List.set_cons_zero, List.set_set, List.set_cons_succ, elemsOf, dAppend, dAppz, dStore, DV.one, alive, freezeAt, List.drop_zero, List.take_length, List.not_mem_nil, List.forall_mem_cons, List.nil_append, fzLL, fzL, bRow, bU, cellsOf, setFrom, DV.isU, beq_self_eq_true, List.length_set, List.length_append, List.length_replicate, gt_iff_lt, ge_iff_le, List.getElem?_nil, Int.reduceBEq, Int.reduceBNe, Int.reduceEq, Int.reduceNe, Int.reduceAdd, Int.reduceSub, Int.reduceMul, Int.reduceNeg, Int.reduceTDiv, Int.reduceTMod, Int.reduceMod, Int.reduceDiv, ne_eq, List.cons.injEq, List.length_map, hlt, hlt2, hrow, hrow2, hk0, hk1, hkl, wk, d1, et, hwx, hwy, hq, sl, b1]
        refine ⟨(k + 1, k + 1, G ++ [(l.take (k + 1)).drop fm]), ?_, ⟨by simp only; omega, Nat.le_refl _, by simp; omega, stop hbr⟩, by simp only; omega⟩
        simp only [cut_some, cut_none, List.map_cons, List.map_nil, get_cons, Nk.get_nil, Nat.reduceEqDiff, ↓reduceIte, Nat.succ_ne_self, DV.cut, DV.inB, DObj.cut, List.take_nil, List.take_zero, if_true, Nat.zero_ne_one, Nat.one_ne_zero, DV.inBL, Bool.and_true, Bool.true_and, reduceCtorEq, Nat.zero_lt_one, decide_true, decide_false, Nat.reduceLT, List.take_succ_cons, List.map_append, List.length_append, List.length_cons, List.length_nil, Nat.zero_add, cGrp]
  · have e : l.length - k = 0 := by omega
    rw [e] at hg
    have hg' : G = grpF l := hg
    simp only [↓sqP, sqT, if_false, ite_true, ite_false, eI, eU, eB, eS, eBs, eL, eA, List.cons_append, List.take_succ_cons, List.drop_succ_cons, buildCells, List.take_zero, List.take_nil, sepsD, sepB, hdl, ↓dwp_cond, dvalX, DOp.kind, dops_some, dval, frameFrom, Nat.reduceEqDiff, Nat.reduceAdd, ↓reduceIte, if_true, bne_self_eq_false, dBin, dInt, dStr, dBeq, dUn, dLoad, cellsAt, retV, retL, DR.val, fzT, fzVs, fzV, fz1, DV.immB, List.map_cons, List.map_nil, Option.map_some, Option.map_none, Bool.false_eq_true, forall_const, reduceCtorEq, implies_true, Nat.reduceSub, List.length_cons, List.length_nil, List.getD_cons_zero, List.getD_cons_succ, Int.reduceToNat, IntKind.bits, Int.reducePow, Nat.reducePow, Int.reduceLE, Int.reduceLT, Nat.reduceLeDiff, Nat.reduceLT, dCallP, viewVs, viewV, view1, capVL, capV, viewL, noMemV, noMem, List.all_cons, List.all_nil, List.getElem?_cons_zero, List.getElem?_cons_succ, List.set_cons_zero, List.set_set, List.set_cons_succ, elemsOf, dAppend, dAppz, dStore, DV.one, alive, freezeAt, List.drop_zero, List.take_length, List.not_mem_nil, List.forall_mem_cons, List.nil_append, fzLL, fzL, bRow, bU, cellsOf, setFrom, DV.isU, beq_self_eq_true, List.length_set, List.length_append, List.length_replicate, gt_iff_lt, ge_iff_le, List.getElem?_nil, Int.reduceBEq, Int.reduceBNe, Int.reduceEq, Int.reduceNe, Int.reduceAdd, Int.reduceSub, Int.reduceMul, Int.reduceNeg, Int.reduceTDiv, Int.reduceTMod, Int.reduceMod, Int.reduceDiv, ne_eq, List.cons.injEq, List.length_map, hlt]
    refine ⟨Nat.le_refl _, ?_⟩
    rw [List.take_of_length_le (by simp), hg']
end Go.Proofs.Ytonpjojccjijfaa
