/- Flows, plain equations, statements: their cells; comparisons of what is the same. -/
import Derived.Test.YtonpjojccjijfaaSame25
set_option linter.all false
set_option maxRecDepth 20000
namespace Go.Proofs.Ytonpjojccjijfaa
open Go.Nk

structure Plain where
  kind : Int
  names : List (List UInt8)
  op : Int
  args : List SN
  init : List Int
  node : Int
  reset : Bool
  ev : List UInt8
  en : Int
  on : List SN
@[reducible] def cPlain (p : Plain) : List DV := [.int .i64 p.kind, .sl (p.names.map cStr), .int .i64 p.op, .sl (p.args.map cSN), .sl (p.init.map cInt), .int .i64 p.node, .bool p.reset, .str p.ev, .int .i64 p.en, .sl (p.on.map cSN)]
def wPlain (p : Plain) : Prop := lw any p.names ∧ lw any p.args ∧ lw any p.init ∧ lw any p.on

structure Stmt where
  kind : Int
  q : Plain
@[reducible] def cStmt (s : Stmt) : List DV := [.int .i64 s.kind, .int .i64 s.q.kind, .sl (s.q.names.map cStr), .int .i64 s.q.op, .sl (s.q.args.map cSN), .sl (s.q.init.map cInt), .int .i64 s.q.node, .bool s.q.reset, .str s.q.ev, .int .i64 s.q.en, .sl (s.q.on.map cSN)]
def wStmt (s : Stmt) : Prop := wPlain s.q

structure VarT where
  name : List UInt8
  k : Int
  e : Int
  l : Int
  on : List SN
@[reducible] def cVar (v : VarT) : List DV := [.str v.name, .int .i64 v.k, .int .i64 v.e, .int .i64 v.l, .sl (v.on.map cSN)]
def wVar (v : VarT) : Prop := lw any v.on

structure Flow where
  name : List UInt8
  ins : List VarT
  outs : List VarT
  vars : List VarT
  eqs : List Plain
@[reducible] def cFlow (f : Flow) : List DV := [.str f.name, .sl (f.ins.map cVar), .sl (f.outs.map cVar), .sl (f.vars.map cVar), .sl (f.eqs.map cPlain)]
def wFlow (f : Flow) : Prop := lw wVar f.ins ∧ lw wVar f.outs ∧ lw wVar f.vars ∧ lw wPlain f.eqs

structure Cls where
  name : List UInt8
  ins : List VarT
  outs : List VarT
  vars : List VarT
  body : List Stmt
@[reducible] def cCls (c : Cls) : List DV := [.str c.name, .sl (c.ins.map cVar), .sl (c.outs.map cVar), .sl (c.vars.map cVar), .sl (c.body.map cStmt)]
def wCls (f : Cls) : Prop := lw wVar f.ins ∧ lw wVar f.outs ∧ lw wVar f.vars ∧ lw wStmt f.body

structure Blk where
  on : List SN
  body : List Stmt
@[reducible] def cBlk (b : Blk) : List DV := [.sl (b.on.map cSN), .sl (b.body.map cStmt)]
def wBlk (b : Blk) : Prop := lw any b.on ∧ lw wStmt b.body

theorem sameNames_at {l : List (List UInt8)} (h : lw any l) : specE (eL cStr) (lw any) [.sl (l.map cStr), .sl (l.map cStr)] = (True, .bool true) := specE_at (eL cStr) h
theorem sameInts_at {l : List Int} (h : lw any l) : specE (eL cInt) (lw any) [.sl (l.map cInt), .sl (l.map cInt)] = (True, .bool true) := specE_at (eL cInt) h
theorem sameSN_at {l : List SN} (h : lw any l) : specE (eL cSN) (lw any) [.sl (l.map cSN), .sl (l.map cSN)] = (True, .bool true) := specE_at (eL cSN) h

theorem ok_noriaref21_SamePlain : OkP Try.prog 25 (specE (eA cPlain) wPlain) := by
  refine OkP.mkE (ps := [(29, specE (eL cStr) (lw any)), (30, specE (eL cSN) (lw any)), (31, specE (eL cInt) (lw any)), (21, specE (eL cSN) (lw any))]) (hs := [])
    ⟨ok_noriaref01_Names, ok_noriaref21_SameAtoms, ok_noriaref01_Vals, ok_noriaref17_Same, trivial⟩ trivial m_noriaref21_SamePlain fun p h => ?_
  have e1 := sameNames_at h.1
  have e2 := sameSN_at h.2.1
  have e3 := sameInts_at h.2.2.1
  have e4 := sameSN_at h.2.2.2
  simp only [↓sqP, sqT, d_noriaref21_SamePlain, if_false, ite_true, ite_false, eI, eU, eB, eS, eBs, eL, eA, List.cons_append, List.take_succ_cons, List.drop_succ_cons, buildCells, List.take_zero, List.take_nil, sepsD, sepB, hdl, ↓dwp_cond, dvalX, DOp.kind, dops_some, dval, frameFrom, Nat.reduceEqDiff, Nat.reduceAdd, ↓reduceIte, if_true, bne_self_eq_false, dBin, dInt, dStr, dBeq, dUn, dLoad, cellsAt, retV, retL, DR.val, fzT, fzVs, fzV, fz1, DV.immB, List.map_cons, List.map_nil, Option.map_some, Option.map_none, Bool.false_eq_true, forall_const, reduceCtorEq, implies_true, Nat.reduceSub, List.length_cons, List.length_nil, List.getD_cons_zero, List.getD_cons_succ, Int.reduceToNat, IntKind.bits, Int.reducePow, Nat.reducePow, Int.reduceLE, Int.reduceLT, Nat.reduceLeDiff, Nat.reduceLT, dCallP, viewVs, viewV, view1, capVL, capV, viewL, noMemV, noMem, List.all_cons, List.all_nil, List.getElem?_cons_zero, List.getElem?_cons_succ, List.set_cons_zero, List.set_set, List.set_cons_succ, elemsOf, dAppend, dAppz, dStore, DV.one, alive, freezeAt, List.drop_zero, List.take_length, List.not_mem_nil, List.forall_mem_cons, List.nil_append, fzLL, fzL, bRow, bU, cellsOf, setFrom, DV.isU, beq_self_eq_true, List.length_set, List.length_append, List.length_replicate, gt_iff_lt, ge_iff_le, List.getElem?_nil, Int.reduceBEq, Int.reduceBNe, Int.reduceEq, Int.reduceNe, Int.reduceAdd, Int.reduceSub, Int.reduceMul, Int.reduceNeg, Int.reduceTDiv, Int.reduceTMod, Int.reduceMod, Int.reduceDiv, ne_eq, List.cons.injEq, e1, e2, e3, e4, dAeq, eqCells]
theorem samePlain_at {p : Plain} (h : wPlain p) : specE (eA cPlain) wPlain [.agg (cPlain p), .agg (cPlain p)] = (True, .bool true) := specE_at (eA cPlain) h

theorem ok_noriaref25_Stmts : OkP Try.prog 15 (specE (eL cStmt) (lw wStmt)) := by
  refine OkP.mkE (ps := [(25, specE (eA cPlain) wPlain)]) (hs := []) ⟨ok_noriaref21_SamePlain, trivial⟩ trivial m_noriaref25_Stmts fun l h => ?_
  have hl : l.length < 9223372036854775808 := lw_len h
  simp only [↓sqP, sqT, d_noriaref25_Stmts, if_false, ite_true, ite_false, eI, eU, eB, eS, eBs, eL, eA, List.cons_append, List.take_succ_cons, List.drop_succ_cons, buildCells, List.take_zero, List.take_nil, sepsD, sepB, hdl, ↓dwp_cond, dvalX, DOp.kind, dops_some, dval, frameFrom, Nat.reduceEqDiff, Nat.reduceAdd, ↓reduceIte, if_true, bne_self_eq_false, dBin, dInt, dStr, dBeq, dUn, dLoad, cellsAt, retV, retL, DR.val, fzT, fzVs, fzV, fz1, DV.immB, List.map_cons, List.map_nil, Option.map_some, Option.map_none, Bool.false_eq_true, forall_const, reduceCtorEq, implies_true, Nat.reduceSub, List.length_cons, List.length_nil, List.getD_cons_zero, List.getD_cons_succ, Int.reduceToNat, IntKind.bits, Int.reducePow, Nat.reducePow, Int.reduceLE, Int.reduceLT, Nat.reduceLeDiff, Nat.reduceLT, dCallP, viewVs, viewV, view1, capVL, capV, viewL, noMemV, noMem, List.all_cons, List.all_nil, List.getElem?_cons_zero, List.getElem?_cons_succ, List.set_cons_zero, List.set_set, List.set_cons_succ, elemsOf, dAppend, dAppz, dStore, DV.one, alive, freezeAt, List.drop_zero, List.take_length, List.not_mem_nil, List.forall_mem_cons, List.nil_append, fzLL, fzL, bRow, bU, cellsOf, setFrom, DV.isU, beq_self_eq_true, List.length_set, List.length_append, List.length_replicate, gt_iff_lt, ge_iff_le, List.getElem?_nil, Int.reduceBEq, Int.reduceBNe, Int.reduceEq, Int.reduceNe, Int.reduceAdd, Int.reduceSub, Int.reduceMul, Int.reduceNeg, Int.reduceTDiv, Int.reduceTMod, Int.reduceMod, Int.reduceDiv, ne_eq, List.cons.injEq, List.length_map]
  refine dwp_loop (fun k : Nat => ⟨[(0, .sl (l.map cStmt)), (1, .sl (l.map cStmt)), (5, .int .i64 k)], []⟩) (fun k => k ≤ l.length) (fun k => l.length - k) 0 (by exact Nat.le_refl _) ?_ (Nat.zero_le _) fun k hk => ?_
  · simp only [cut_some, cut_none, List.map_cons, List.map_nil, get_cons, Nk.get_nil, Nat.reduceEqDiff, ↓reduceIte, Nat.succ_ne_self, DV.cut, DV.inB, DObj.cut, List.take_nil, List.take_zero, if_true, Nat.zero_ne_one, Nat.one_ne_zero, DV.inBL, Bool.and_true, Bool.true_and, reduceCtorEq, Nat.zero_lt_one, decide_true, decide_false, Nat.reduceLT, List.take_succ_cons]; rfl
  · by_cases hlt : k < l.length
    · obtain ⟨x, hx⟩ : ∃ x, l[k]? = some x := ⟨l[k], by simp [hlt]⟩
      have hrow := map_getD cStmt hx
      have wk := wk_of hlt hl
      have hk0 : (0 : Int) ≤ k := by omega
      have hkl : (k : Int) < (l.length : Int) := by omega
      have e1 := samePlain_at (lw_at h hx)
      simp only [cPlain] at e1
      simp only [↓sqP, sqT, if_false, ite_true, ite_false, eI, eU, eB, eS, eBs, eL, eA, List.cons_append, List.take_succ_cons, List.drop_succ_cons, buildCells, List.take_zero, List.take_nil, sepsD, sepB, hdl, ↓dwp_cond, dvalX, DOp.kind, dops_some, dval, frameFrom, Nat.reduceEqDiff, Nat.reduceAdd, ↓reduceIte, if_true, bne_self_eq_false, dBin, dInt, dStr, dBeq, dUn, dLoad, cellsAt, retV, retL, DR.val, fzT, fzVs, fzV, fz1, DV.immB, List.map_cons, List.map_nil, Option.map_some, Option.map_none, Bool.false_eq_true, forall_const, reduceCtorEq, implies_true, Nat.reduceSub, List.length_cons, List.length_nil, List.getD_cons_zero, List.getD_cons_succ, Int.reduceToNat, IntKind.bits, Int.reducePow, Nat.reducePow, Int.reduceLE, Int.reduceLT, Nat.reduceLeDiff, Nat.reduceLT, dCallP, viewVs, viewV, view1, capVL, capV, viewL, noMemV, noMem, List.all_cons, List.all_nil, List.getElem?_cons_zero, List.getElem?_cons_succ, List.set_cons_zero, List.set_set, List.set_cons_succ, elemsOf, dAppend, dAppz, dStore, DV.one, alive, freezeAt, List.drop_zero, List.take_length, List.not_mem_nil, List.forall_mem_cons, List.nil_append, fzLL, fzL, bRow, bU, cellsOf, setFrom, DV.isU, beq_self_eq_true, List.length_set, List.length_append, List.length_replicate, gt_iff_lt, ge_iff_le, List.getElem?_nil, Int.reduceBEq, Int.reduceBNe, Int.reduceEq, Int.reduceNe, Int.reduceAdd, Int.reduceSub, Int.reduceMul, Int.reduceNeg, Int.reduceTDiv, Int.reduceTMod, Int.reduceMod, Int.reduceDiv, ne_eq, List.cons.injEq, List.length_map, hlt, hrow, hk0, hkl, wk, e1]
      exact ⟨k + 1, by simp only [cut_some, cut_none, List.map_cons, List.map_nil, get_cons, Nk.get_nil, Nat.reduceEqDiff, ↓reduceIte, Nat.succ_ne_self, DV.cut, DV.inB, DObj.cut, List.take_nil, List.take_zero, if_true, Nat.zero_ne_one, Nat.one_ne_zero, DV.inBL, Bool.and_true, Bool.true_and, reduceCtorEq, Nat.zero_lt_one, decide_true, decide_false, Nat.reduceLT, List.take_succ_cons], by omega, by omega⟩
    · simp only [↓sqP, sqT, if_false, ite_true, ite_false, eI, eU, eB, eS, eBs, eL, eA, List.cons_append, List.take_succ_cons, List.drop_succ_cons, buildCells, List.take_zero, List.take_nil, sepsD, sepB, hdl, ↓dwp_cond, dvalX, DOp.kind, dops_some, dval, frameFrom, Nat.reduceEqDiff, Nat.reduceAdd, ↓reduceIte, if_true, bne_self_eq_false, dBin, dInt, dStr, dBeq, dUn, dLoad, cellsAt, retV, retL, DR.val, fzT, fzVs, fzV, fz1, DV.immB, List.map_cons, List.map_nil, Option.map_some, Option.map_none, Bool.false_eq_true, forall_const, reduceCtorEq, implies_true, Nat.reduceSub, List.length_cons, List.length_nil, List.getD_cons_zero, List.getD_cons_succ, Int.reduceToNat, IntKind.bits, Int.reducePow, Nat.reducePow, Int.reduceLE, Int.reduceLT, Nat.reduceLeDiff, Nat.reduceLT, dCallP, viewVs, viewV, view1, capVL, capV, viewL, noMemV, noMem, List.all_cons, List.all_nil, List.getElem?_cons_zero, List.getElem?_cons_succ, List.set_cons_zero, List.set_set, List.set_cons_succ, elemsOf, dAppend, dAppz, dStore, DV.one, alive, freezeAt, List.drop_zero, List.take_length, List.not_mem_nil, List.forall_mem_cons, List.nil_append, fzLL, fzL, bRow, bU, cellsOf, setFrom, DV.isU, beq_self_eq_true, List.length_set, List.length_append, List.length_replicate, gt_iff_lt, ge_iff_le, List.getElem?_nil, Int.reduceBEq, Int.reduceBNe, Int.reduceEq, Int.reduceNe, Int.reduceAdd, Int.reduceSub, Int.reduceMul, Int.reduceNeg, Int.reduceTDiv, Int.reduceTMod, Int.reduceMod, Int.reduceDiv, ne_eq, List.cons.injEq, List.length_map, hlt]
theorem stmts_at {l : List Stmt} (h : lw wStmt l) : specE (eL cStmt) (lw wStmt) [.sl (l.map cStmt), .sl (l.map cStmt)] = (True, .bool true) := specE_at (eL cStmt) h

theorem ok_noriaref25_SameBlocks : OkP Try.prog 13 (specE (eL cBlk) (lw wBlk)) := by
  refine OkP.mkE (ps := [(21, specE (eL cSN) (lw any)), (15, specE (eL cStmt) (lw wStmt))]) (hs := []) ⟨ok_noriaref17_Same, ok_noriaref25_Stmts, trivial⟩ trivial m_noriaref25_SameBlocks fun l h => ?_
  have hl : l.length < 9223372036854775808 := lw_len h
  simp only [↓sqP, sqT, d_noriaref25_SameBlocks, if_false, ite_true, ite_false, eI, eU, eB, eS, eBs, eL, eA, List.cons_append, List.take_succ_cons, List.drop_succ_cons, buildCells, List.take_zero, List.take_nil, sepsD, sepB, hdl, ↓dwp_cond, dvalX, DOp.kind, dops_some, dval, frameFrom, Nat.reduceEqDiff, Nat.reduceAdd, ↓reduceIte, if_true, bne_self_eq_false, dBin, dInt, dStr, dBeq, dUn, dLoad, cellsAt, retV, retL, DR.val, fzT, fzVs, fzV, fz1, DV.immB, List.map_cons, List.map_nil, Option.map_some, Option.map_none, Bool.false_eq_true, forall_const, reduceCtorEq, implies_true, Nat.reduceSub, List.length_cons, List.length_nil, List.getD_cons_zero, List.getD_cons_succ, Int.reduceToNat, IntKind.bits, Int.reducePow, Nat.reducePow, Int.reduceLE, Int.reduceLT, Nat.reduceLeDiff, Nat.reduceLT, dCallP, viewVs, viewV, view1, capVL, capV, viewL, noMemV, noMem, List.all_cons, List.all_nil, List.getElem?_cons_zero, List.getElem?_cons_succ, List.set_cons_zero, List.set_set, List.set_cons_succ, elemsOf, dAppend, dAppz, dStore, DV.one, alive, freezeAt, List.drop_zero, List.take_length, List.not_mem_nil, List.forall_mem_cons, List.nil_append, fzLL, fzL, bRow, bU, cellsOf, setFrom, DV.isU, beq_self_eq_true, List.length_set, List.length_append, List.length_replicate, gt_iff_lt, ge_iff_le, List.getElem?_nil, Int.reduceBEq, Int.reduceBNe, Int.reduceEq, Int.reduceNe, Int.reduceAdd, Int.reduceSub, Int.reduceMul, Int.reduceNeg, Int.reduceTDiv, Int.reduceTMod, Int.reduceMod, Int.reduceDiv, ne_eq, List.cons.injEq, List.length_map]
  refine dwp_loop (fun k : Nat => ⟨[(0, .sl (l.map cBlk)), (1, .sl (l.map cBlk)), (5, .int .i64 k)], []⟩) (fun k => k ≤ l.length) (fun k => l.length - k) 0 (by exact Nat.le_refl _) ?_ (Nat.zero_le _) fun k hk => ?_
  · simp only [cut_some, cut_none, List.map_cons, List.map_nil, get_cons, Nk.get_nil, Nat.reduceEqDiff, ↓reduceIte, Nat.succ_ne_self, DV.cut, DV.inB, DObj.cut, List.take_nil, List.take_zero, if_true, Nat.zero_ne_one, Nat.one_ne_zero, DV.inBL, Bool.and_true, Bool.true_and, reduceCtorEq, Nat.zero_lt_one, decide_true, decide_false, Nat.reduceLT, List.take_succ_cons]; rfl
  · by_cases hlt : k < l.length
    · obtain ⟨x, hx⟩ : ∃ x, l[k]? = some x := ⟨l[k], by simp [hlt]⟩
      have hrow := map_getD cBlk hx
      have wk := wk_of hlt hl
      have hk0 : (0 : Int) ≤ k := by omega
      have hkl : (k : Int) < (l.length : Int) := by omega
      have e1 := sameSN_at (lw_at h hx).1
      have e2 := stmts_at (lw_at h hx).2
      simp only [↓sqP, sqT, if_false, ite_true, ite_false, eI, eU, eB, eS, eBs, eL, eA, List.cons_append, List.take_succ_cons, List.drop_succ_cons, buildCells, List.take_zero, List.take_nil, sepsD, sepB, hdl, ↓dwp_cond, dvalX, DOp.kind, dops_some, dval, frameFrom, Nat.reduceEqDiff, Nat.reduceAdd, ↓reduceIte, if_true, bne_self_eq_false, dBin, dInt, dStr, dBeq, dUn, dLoad, cellsAt, retV, retL, DR.val, fzT, fzVs, fzV, fz1, DV.immB, List.map_cons, List.map_nil, Option.map_some, Option.map_none, Bool.false_eq_true, forall_const, reduceCtorEq, implies_true, Nat.reduceSub, List.length_cons, List.length_nil, List.getD_cons_zero, List.getD_cons_succ, Int.reduceToNat, IntKind.bits, Int.reducePow, Nat.reducePow, Int.reduceLE, Int.reduceLT, Nat.reduceLeDiff, Nat.reduceLT, dCallP, viewVs, viewV, view1, capVL, capV, viewL, noMemV, noMem, List.all_cons, List.all_nil, List.getElem?_cons_zero, List.getElem?_cons_succ, List.set_cons_zero, List.set_set, List.set_cons_succ, elemsOf, dAppend, dAppz, dStore, DV.one, alive, freezeAt, List.drop_zero, List.take_length, List.not_mem_nil, List.forall_mem_cons, List.nil_append, fzLL, fzL, bRow, bU, cellsOf, setFrom, DV.isU, beq_self_eq_true, List.length_set, List.length_append, List.length_replicate, gt_iff_lt, ge_iff_le, List.getElem?_nil, Int.reduceBEq, Int.reduceBNe, Int.reduceEq, Int.reduceNe, Int.reduceAdd, Int.reduceSub, Int.reduceMul, Int.reduceNeg, Int.reduceTDiv, Int.reduceTMod, Int.reduceMod, Int.reduceDiv, ne_eq, List.cons.injEq, List.length_map, hlt, hrow, hk0, hkl, wk, e1, e2]
      exact ⟨k + 1, by simp only [cut_some, cut_none, List.map_cons, List.map_nil, get_cons, Nk.get_nil, Nat.reduceEqDiff, ↓reduceIte, Nat.succ_ne_self, DV.cut, DV.inB, DObj.cut, List.take_nil, List.take_zero, if_true, Nat.zero_ne_one, Nat.one_ne_zero, DV.inBL, Bool.and_true, Bool.true_and, reduceCtorEq, Nat.zero_lt_one, decide_true, decide_false, Nat.reduceLT, List.take_succ_cons], by omega, by omega⟩
    · simp only [↓sqP, sqT, if_false, ite_true, ite_false, eI, eU, eB, eS, eBs, eL, eA, List.cons_append, List.take_succ_cons, List.drop_succ_cons, buildCells, List.take_zero, List.take_nil, sepsD, sepB, hdl, ↓dwp_cond, dvalX, DOp.kind, dops_some, dval, frameFrom, Nat.reduceEqDiff, Nat.reduceAdd, ↓reduceIte, if_true, bne_self_eq_false, dBin, dInt, dStr, dBeq, dUn, dLoad, cellsAt, retV, retL, DR.val, fzT, fzVs, fzV, fz1, DV.immB, List.map_cons, List.map_nil, Option.map_some, Option.map_none, Bool.false_eq_true, forall_const, reduceCtorEq, implies_true, Nat.reduceSub, List.length_cons, List.length_nil, List.getD_cons_zero, List.getD_cons_succ, Int.reduceToNat, IntKind.bits, Int.reducePow, Nat.reducePow, Int.reduceLE, Int.reduceLT, Nat.reduceLeDiff, Nat.reduceLT, dCallP, viewVs, viewV, view1, capVL, capV, viewL, noMemV, noMem, List.all_cons, List.all_nil, List.getElem?_cons_zero, List.getElem?_cons_succ, List.set_cons_zero, List.set_set, List.set_cons_succ, elemsOf, dAppend, dAppz, dStore, DV.one, alive, freezeAt, List.drop_zero, List.take_length, List.not_mem_nil, List.forall_mem_cons, List.nil_append, fzLL, fzL, bRow, bU, cellsOf, setFrom, DV.isU, beq_self_eq_true, List.length_set, List.length_append, List.length_replicate, gt_iff_lt, ge_iff_le, List.getElem?_nil, Int.reduceBEq, Int.reduceBNe, Int.reduceEq, Int.reduceNe, Int.reduceAdd, Int.reduceSub, Int.reduceMul, Int.reduceNeg, Int.reduceTDiv, Int.reduceTMod, Int.reduceMod, Int.reduceDiv, ne_eq, List.cons.injEq, List.length_map, hlt]
end Go.Proofs.Ytonpjojccjijfaa
