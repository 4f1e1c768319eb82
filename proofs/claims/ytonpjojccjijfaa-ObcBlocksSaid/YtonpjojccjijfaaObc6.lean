/- Blocks of a class; the page's example; ObcClasses. -/
import Derived.Test.YtonpjojccjijfaaObc5
set_option linter.all false
set_option maxRecDepth 20000
namespace Go.Proofs.Ytonpjojccjijfaa
open Go.Nk

theorem gFrom_ok (l : List Stmt) : ∀ r k fm G, k + r = l.length → fm ≤ k → (∀ g ∈ G, g ≠ [] ∧ g.length ≤ l.length ∧ ∀ s ∈ g, s ∈ l) → ∀ g ∈ gFrom l r k fm G, g ≠ [] ∧ g.length ≤ l.length ∧ ∀ s ∈ g, s ∈ l
  | 0, _, _, _, _, _, h => h
  | r + 1, k, fm, G, hk, hf, h => by
    unfold gFrom
    split
    · refine gFrom_ok l r (k + 1) (k + 1) _ (by omega) (Nat.le_refl _) fun g hg => ?_
      rcases List.mem_append.1 hg with hg | hg
      · exact h g hg
      · simp only [List.mem_singleton] at hg
        subst hg
        refine ⟨fun e => ?_, by simp; omega, fun s hs => List.mem_of_mem_take (List.mem_of_mem_drop hs)⟩
        have := congrArg List.length e
        simp at this
        omega
    · exact gFrom_ok l r (k + 1) fm G (by omega) (by omega) h
theorem grpF_ok (l : List Stmt) : ∀ g ∈ grpF l, g ≠ [] ∧ g.length ≤ l.length ∧ ∀ s ∈ g, s ∈ l := gFrom_ok l _ 0 0 [] (by omega) (Nat.le_refl _) (by simp)

def blkF (g : List Stmt) : Blk := ⟨(g.headD zS).q.on, g.map (bareS [])⟩
def blksF (c : Cls) : List Blk := (grpF c.body).map blkF
def okB (c : Cls) : Prop := c.body.length ≤ 1000000 ∧ ∀ s ∈ c.body, wStmt s
noncomputable def s_Blocks : List DV → Prop × DV := spec1 (eA cCls) fun c => (okB c, .sl ((blksF c).map cBlk))
theorem s_Blocks_at (c : Cls) : s_Blocks [.agg (cCls c)] = (okB c, .sl ((blksF c).map cBlk)) := spec1_at (inj_A cCls_inj) _ c

theorem ok_obc_Blocks : OkP Try.prog 14 s_Blocks := by
  refine OkP.mk1 (ps := [(22, s_groups), (24, s_bare)]) (hs := []) ⟨ok_groups, ok_bare, trivial⟩ trivial m_obc_Blocks fun c h => ?_
  have hb : c.body.length ≤ 1000000 := h.1
  have hc : c.body.length ≤ 1000000 ∧ ∀ s ∈ c.body, wStmt s := h
  have eg := s_groups_at c.body
  have gl : (grpF c.body).length ≤ 1000000 := by have := gFrom_len c.body c.body.length 0 0 []; simp at this; unfold grpF; omega
  simp only [hc.1, true_and] at eg
  simp only [↓sqP, sqT, d_obc_Blocks, if_false, ite_true, ite_false, eI, eU, eB, eS, eBs, eL, eA, List.cons_append, List.take_succ_cons, List.drop_succ_cons, buildCells, List.take_zero, List.take_nil, sepsD, sepB, hdl, ↓dwp_cond, dvalX, DOp.kind, dops_some, dval, frameFrom, Nat.reduceEqDiff, Nat.reduceAdd, ↓reduceIte, if_true, bne_self_eq_false, dBin, dInt, dStr, dBeq, dUn, dLoad, cellsAt, retV, retL, DR.val, fzT, fzVs, fzV, fz1, DV.immB, List.map_cons, List.map_nil, Option.map_some, Option.map_none, Bool.false_eq_true, forall_const, reduceCtorEq, implies_true, Nat.reduceSub, List.length_cons, List.length_nil, List.getD_cons_zero, List.getD_cons_succ, Int.reduceToNat, IntKind.bits, Int.reducePow, Nat.reducePow, Int.reduceLE, Int.reduceLT, Nat.reduceLeDiff, Nat.reduceLT, dCallP, viewVs, viewV, view1, capVL, capV, viewL, noMemV, noMem, List.all_cons, List.all_nil, List.getElem?_cons_zero, List.getElem?_cons_succ, List.set_cons_zero, List.set_set, List.set_cons_succ, elemsOf, dAppend, dAppz, dStore, DV.one, alive, freezeAt, List.drop_zero, List.take_length, List.not_mem_nil, List.forall_mem_cons, List.nil_append, fzLL, fzL, bRow, bU, cellsOf, setFrom, DV.isU, beq_self_eq_true, List.length_set, List.length_append, List.length_replicate, gt_iff_lt, ge_iff_le, List.getElem?_nil, Int.reduceBEq, Int.reduceBNe, Int.reduceEq, Int.reduceNe, Int.reduceAdd, Int.reduceSub, Int.reduceMul, Int.reduceNeg, Int.reduceTDiv, Int.reduceTMod, Int.reduceMod, Int.reduceDiv, ne_eq, List.cons.injEq, eg, List.length_map]
  refine ⟨hc.2, ?_⟩
  unfold blksF
  have gok := grpF_ok c.body
  generalize grpF c.body = G at *
  refine dwp_loop (fun k : Nat => ⟨[(3, .own 1 k 0 k), (8, .sl (G.map cGrp)), (9, .int .i64 G.length), (10, .int .i64 k)], [⟨.loc, 5, [cCls c]⟩, ⟨.imm, 2, ((G.take k).map blkF).map cBlk⟩]⟩) (fun k => k ≤ G.length) (fun k => G.length - k) 0 (by exact Nat.zero_le _) ?_ (Nat.zero_le _) fun k hk => ?_
  · simp only [cut_some, cut_none, List.map_cons, List.map_nil, get_cons, Nk.get_nil, Nat.reduceEqDiff, ↓reduceIte, Nat.succ_ne_self, DV.cut, DV.inB, DObj.cut, List.take_nil, List.take_zero, if_true, Nat.zero_ne_one, Nat.one_ne_zero, DV.inBL, Bool.and_true, Bool.true_and, reduceCtorEq, Nat.zero_lt_one, decide_true, decide_false, Nat.reduceLT, List.take_succ_cons]; rfl
  have hlen : (G.take k).length = k := by simp; omega
  by_cases hlt : k < G.length
  · obtain ⟨g, hg⟩ : ∃ g, G[k]? = some g := ⟨G[k], by simp [hlt]⟩
    have hrow := map_getD cGrp hg
    have wk := wk_of hlt (by omega)
    have hk0 : (0 : Int) ≤ k := by omega
    have hkl : (k : Int) < (G.length : Int) := by omega
    obtain ⟨g1, g2, g3⟩ := gok g (List.mem_of_getElem? hg)
    have eb : s_bare [.sl (g.map cStmt), .sl []] = (g.length ≤ 1000000, .sl ((g.map (bareS [])).map cStmt)) := s_bare_at g []
    have b0 : g.length ≤ 1000000 := by omega
    have b1 : k + 1 ≤ lenMax := by unfold lenMax; omega
    have t1 := take_of hg
    cases g with
    | nil => exact absurd rfl g1
    | cons s g =>
      have p1 : (0 : Int) < ((g.length + 1 : Nat) : Int) := by omega
      simp only [List.map_cons, cStmt] at eb
      simp only [↓sqP, sqT, if_false, ite_true, ite_false, eI, eU, eB, eS, eBs, eL, eA, List.cons_append, List.take_succ_cons, List.drop_succ_cons, buildCells, List.take_zero, List.take_nil, sepsD, sepB, hdl, ↓dwp_cond, dvalX, DOp.kind, dops_some, dval, frameFrom, Nat.reduceEqDiff, Nat.reduceAdd, ↓reduceIte, if_true, bne_self_eq_false, dBin, dInt, dStr, dBeq, dUn, dLoad, cellsAt, retV, retL, DR.val, fzT, fzVs, fzV, fz1, DV.immB, List.map_cons, List.map_nil, Option.map_some, Option.map_none, Bool.false_eq_true, forall_const, reduceCtorEq, implies_true, Nat.reduceSub, List.length_cons, List.length_nil, List.getD_cons_zero, List.getD_cons_succ, Int.reduceToNat, IntKind.bits, Int.reducePow, Nat.reducePow, Int.reduceLE, Int.reduceLT, Nat.reduceLeDiff, Nat.reduceLT, dCallP, viewVs, viewV, view1, capVL, capV, viewL, noMemV, noMem, List.all_cons, List.all_nil, List.getElem?_cons_zero, List.getElem?_cons_succ, List.set_cons_zero, List.set_set, List.set_cons_succ, elemsOf, dAppend, dAppz, dStore, DV.one, alive, freezeAt, List.drop_zero, List.take_length, List.not_mem_nil, List.forall_mem_cons, List.nil_append, fzLL, fzL, bRow, bU, cellsOf, setFrom, DV.isU, beq_self_eq_true, List.length_set, List.length_append, List.length_replicate, gt_iff_lt, ge_iff_le, List.getElem?_nil, Int.reduceBEq, Int.reduceBNe, Int.reduceEq, Int.reduceNe, Int.reduceAdd, Int.reduceSub, Int.reduceMul, Int.reduceNeg, Int.reduceTDiv, Int.reduceTMod, Int.reduceMod, Int.reduceDiv, ne_eq, List.cons.injEq, List.length_map, hlt, hrow, hk0, hkl, wk, eb, b0, b1, hlen, cGrp, Nat.zero_lt_succ, p1, Nat.succ_pos]
      refine ⟨by simp only [List.length_cons] at b0; omega, k + 1, ?_, by omega, by omega⟩
      simp only [cut_some, cut_none, List.map_cons, List.map_nil, get_cons, Nk.get_nil, Nat.reduceEqDiff, ↓reduceIte, Nat.succ_ne_self, DV.cut, DV.inB, DObj.cut, List.take_nil, List.take_zero, if_true, Nat.zero_ne_one, Nat.one_ne_zero, DV.inBL, Bool.and_true, Bool.true_and, reduceCtorEq, Nat.zero_lt_one, decide_true, decide_false, Nat.reduceLT, List.take_succ_cons, t1, List.map_append, blkF, cBlk, cCls, List.headD_cons, cStmt, bareS]
  · have t1 : G.take k = G := List.take_of_length_le (by omega)
    simp only [↓sqP, sqT, if_false, ite_true, ite_false, eI, eU, eB, eS, eBs, eL, eA, List.cons_append, List.take_succ_cons, List.drop_succ_cons, buildCells, List.take_zero, List.take_nil, sepsD, sepB, hdl, ↓dwp_cond, dvalX, DOp.kind, dops_some, dval, frameFrom, Nat.reduceEqDiff, Nat.reduceAdd, ↓reduceIte, if_true, bne_self_eq_false, dBin, dInt, dStr, dBeq, dUn, dLoad, cellsAt, retV, retL, DR.val, fzT, fzVs, fzV, fz1, DV.immB, List.map_cons, List.map_nil, Option.map_some, Option.map_none, Bool.false_eq_true, forall_const, reduceCtorEq, implies_true, Nat.reduceSub, List.length_cons, List.length_nil, List.getD_cons_zero, List.getD_cons_succ, Int.reduceToNat, IntKind.bits, Int.reducePow, Nat.reducePow, Int.reduceLE, Int.reduceLT, Nat.reduceLeDiff, Nat.reduceLT, dCallP, viewVs, viewV, view1, capVL, capV, viewL, noMemV, noMem, List.all_cons, List.all_nil, List.getElem?_cons_zero, List.getElem?_cons_succ, List.set_cons_zero, List.set_set, List.set_cons_succ, elemsOf, dAppend, dAppz, dStore, DV.one, alive, freezeAt, List.drop_zero, List.take_length, List.not_mem_nil, List.forall_mem_cons, List.nil_append, fzLL, fzL, bRow, bU, cellsOf, setFrom, DV.isU, beq_self_eq_true, List.length_set, List.length_append, List.length_replicate, gt_iff_lt, ge_iff_le, List.getElem?_nil, Int.reduceBEq, Int.reduceBNe, Int.reduceEq, Int.reduceNe, Int.reduceAdd, Int.reduceSub, Int.reduceMul, Int.reduceNeg, Int.reduceTDiv, Int.reduceTMod, Int.reduceMod, Int.reduceDiv, ne_eq, List.cons.injEq, List.length_map, hlt, hlen]
    refine ⟨Nat.le_refl _, ?_⟩
    rw [List.take_of_length_le (by simp; omega), t1]

def liveN : Plain := ⟨5, [[110]], 0, [⟨[110, 46, 49], 0⟩], [0], 0, false, [], 0, []⟩
def liveQ : Plain := ⟨3, [[110, 46, 49]], 3, [⟨[110], 0⟩, ⟨[], 1⟩], [], 0, false, [], 0, []⟩
def liveF : Flow := ⟨[], [], [], [], [liveN, liveQ]⟩

noncomputable def s_live : List DV → Prop × DV := spec0 (True, .bool true)
theorem s_live_at : s_live [] = (True, .bool true) := spec0_at _
theorem ok_live : OkP Try.prog 5 s_live := by
  refine OkP.mk0 (ps := [(10, s_Class), (14, s_Blocks)]) (hs := []) ⟨ok_obc_Class, ok_obc_Blocks, trivial⟩ trivial m_norialaw25_live fun _ => ?_
  have c0 : okC liveF := by unfold okC; decide
  have c1 : clsF liveF = ⟨[], [], [], [], [⟨2, liveN⟩, ⟨1, liveQ⟩, ⟨3, liveN⟩]⟩ := rfl
  have e1 := s_Class_at liveF
  rw [c1, eq_true c0] at e1
  have lw0 : ∀ {α : Type} (l : List α), l.length ≤ 5 → lw any l := fun l h => ⟨by omega, fun _ _ => trivial⟩
  have w1 : wPlain liveN := ⟨lw0 _ (by decide), lw0 _ (by decide), lw0 _ (by decide), lw0 _ (by decide)⟩
  have w2 : wPlain liveQ := ⟨lw0 _ (by decide), lw0 _ (by decide), lw0 _ (by decide), lw0 _ (by decide)⟩
  have b0 : okB ⟨[], [], [], [], [⟨2, liveN⟩, ⟨1, liveQ⟩, ⟨3, liveN⟩]⟩ := ⟨by decide, by
    intro s hs
    simp only [List.mem_cons, List.not_mem_nil, or_false] at hs
    rcases hs with rfl | rfl | rfl
    · exact w1
    · exact w2
    · exact w1⟩
  have e2 := s_Blocks_at ⟨[], [], [], [], [⟨2, liveN⟩, ⟨1, liveQ⟩, ⟨3, liveN⟩]⟩
  rw [eq_true b0] at e2
  have n1 : (blksF ⟨[], [], [], [], [⟨2, liveN⟩, ⟨1, liveQ⟩, ⟨3, liveN⟩]⟩).length = 1 := by kernel_rfl
  simp only [cFlow, cCls, cPlain, cStmt, cStr, cSN, cInt, List.map_cons, List.map_nil, liveF, liveN, liveQ] at e1 e2 n1
  simp only [↓sqP, sqT, d_norialaw25_live, if_false, ite_true, ite_false, eI, eU, eB, eS, eBs, eL, eA, List.cons_append, List.take_succ_cons, List.drop_succ_cons, buildCells, List.take_zero, List.take_nil, sepsD, sepB, hdl, ↓dwp_cond, dvalX, DOp.kind, dops_some, dval, frameFrom, Nat.reduceEqDiff, Nat.reduceAdd, ↓reduceIte, if_true, bne_self_eq_false, dBin, dInt, dStr, dBeq, dUn, dLoad, cellsAt, retV, retL, DR.val, fzT, fzVs, fzV, fz1, DV.immB, List.map_cons, List.map_nil, Option.map_some, Option.map_none, Bool.false_eq_true, forall_const, reduceCtorEq, implies_true, Nat.reduceSub, List.length_cons, List.length_nil, List.getD_cons_zero, List.getD_cons_succ, Int.reduceToNat, IntKind.bits, Int.reducePow, Nat.reducePow, Int.reduceLE, Int.reduceLT, Nat.reduceLeDiff, Nat.reduceLT, dCallP, viewVs, viewV, view1, capVL, capV, viewL, noMemV, noMem, List.all_cons, List.all_nil, List.getElem?_cons_zero, List.getElem?_cons_succ, List.set_cons_zero, List.set_set, List.set_cons_succ, elemsOf, dAppend, dAppz, dStore, DV.one, alive, freezeAt, List.drop_zero, List.take_length, List.not_mem_nil, List.forall_mem_cons, List.nil_append, fzLL, fzL, bRow, bU, cellsOf, setFrom, DV.isU, beq_self_eq_true, List.length_set, List.length_append, List.length_replicate, gt_iff_lt, ge_iff_le, List.getElem?_nil, Int.reduceBEq, Int.reduceBNe, Int.reduceEq, Int.reduceNe, Int.reduceAdd, Int.reduceSub, Int.reduceMul, Int.reduceNeg, Int.reduceTDiv, Int.reduceTMod, Int.reduceMod, Int.reduceDiv, ne_eq, List.cons.injEq, e1, e2, n1, List.length_map, Int.cast_ofNat_Int]
end Go.Proofs.Ytonpjojccjijfaa
