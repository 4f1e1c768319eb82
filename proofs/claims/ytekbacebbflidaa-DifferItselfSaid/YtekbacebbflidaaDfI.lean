/- Which images may be; of one that may be to itself all paths are kept. -/
import Derived.Test.YtekbacebbflidaaDfH
set_option linter.all false
set_option maxRecDepth 20000
namespace Go.Proofs.Ytekbacebbflidaa
open Go.Nk

def portOk (l : List En) (p : Prt) : Bool := lowF p.name && rightTy l p.ty
def pnames (l : List Prt) : List (List UInt8) := l.map (·.name)
def formF (x : Img) : Bool := enumsF x.en == 0 && decide (x.ins.length ≤ 6) && decide (1 ≤ x.outs.length) && decide (x.outs.length ≤ 6) && rightS x.en x.slots && (x.ins ++ x.outs).all (portOk x.en) && onceF (pnames (x.ins ++ x.outs)) && shapeOk (shapeF x)
def okForm (x : Img) : Prop := okShape x ∧ ∀ s ∈ x.slots, s.path.length ≤ 1000000 ∧ s.ini.length ≤ 1000000
noncomputable def s_Form : List DV → Prop × DV := spec1 eImg fun x => (okForm x, .bool (formF x))
theorem s_Form_at (x : Img) : s_Form [.agg (cImg x)] = (okForm x, .bool (formF x)) := spec1_at inj_Img _ x
theorem ok_noriaref34_Form : OkP Try.prog 13 s_Form := by
  refine OkP.mk1 (ps := [(23, s_EnumsF), (24, s_RightS), (25, s_Low), (26, s_RightTy), (27, s_Once), (29, s_Shape), (28, s_ShapeOk)]) (hs := []) ⟨ok_noriaref05_Enums, ok_noriaref27_Right, ok_noriaref04_Low, ok_refRightTy, ok_noriaref04_Once, ok_noriaref32_Shape, ok_noriaref29_Shape, trivial⟩ trivial m_noriaref34_Form fun x h => ?_
  try dsimp only at h
  obtain ⟨h1, h2⟩ := h
  have h1' := h1
  obtain ⟨l1, l2, l3, l4, l5⟩ := h1
  have e1 := s_EnumsF_at x.en
  have e2 := s_RightS_at x.en x.slots
  rw [eq_true (show x.slots.length ≤ 1000000 ∧ (∀ s ∈ x.slots, s.path.length ≤ 1000000 ∧ s.ini.length ≤ 1000000) from ⟨l2, h2⟩)] at e2
  by_cases q : enumsF x.en = 0 ∧ x.ins.length ≤ 6 ∧ 1 ≤ x.outs.length ∧ x.outs.length ≤ 6 ∧ rightS x.en x.slots = true
  rotate_left
  · have hr : formF x = false := by
      simp only [formF]; grind
    (have hcondQ := Bool.and_self; refine Todo.of ?_); (repeat' (first | ((with_reducible refine Todo.to ?_); (repeat (first | (simp only [↓rP, rT, rU, eI, eU, eB, eS, eBs, eL, eA, buildCells, sepsD, sepB, hdl, dvalX, DOp.kind, dval, frameFrom, dBin, dInt, dStr, dBeq, dUn, dLoad, cellsAt, retV, retL, DR.val, fzT, fzVs, fzV, fz1, DV.immB, IntKind.bits, dCallP, viewVs, viewV, view1, capVL, capV, viewL, noMemV, noMem, elemsOf, dAppend, dAppz, dStore, DV.one, alive, freezeAt, fzLL, fzL, bRow, bU, cellsOf, setFrom, DV.isU, lenMax, Nat.reduceEqDiff, Nat.reduceAdd, ↓reduceIte, reduceCtorEq, Nat.reduceSub, Int.reduceToNat, Int.reducePow, Nat.reducePow, Int.reduceLE, Int.reduceLT, Nat.reduceLeDiff, Nat.reduceLT, Int.reduceBEq, Int.reduceBNe, Int.reduceEq, Int.reduceNe, Int.reduceAdd, Int.reduceSub, Int.reduceMul, Int.reduceNeg, Int.reduceTDiv, Int.reduceTMod, Int.reduceMod, Int.reduceDiv, Nat.reduceMul, forall_const, implies_true, d_noriaref34_Form, s_EnumsF_at, s_RightS_at, s_Low_at, s_RightTy_at, s_Once_at, s_Shape_at, s_ShapeOk_at, eChgs, eCloFnd, eEns, eIls, eImg, ePrt, ePrts, eRS, eRows, eShpF, eSlt, eSlts, eSs, eTy, eY, sls_len, ils_len, ils_rowsT, sls_rowsT, sls_tk0, ils_tk0, e1, e2, hr , hcondQ]) | (simp (disch := omega) only [i64_id, u64_id, u8_id, getD_map'])))) | ((with_reducible refine And.intro ?_ ?_); · first | trivial | omega | (simp; done) | (simp; omega)) | ((first | ((with_reducible refine dwp_condI (t := ?_) ?_ (fun hcQ => ?_) (fun hcQ => ?_)); rotate_left; · rfl) | ((with_reducible refine dops_guardI (t := ?_) ?_ (fun hcQ => ?_) (fun hcQ => ?_)); rotate_left; · rfl)) <;> (have hn := hcQ; have hcondQ := hcQ) <;> (try simp only [decide_eq_true_eq, decide_eq_false_iff_not, beq_iff_eq, bne_iff_ne, ne_eq, Bool.and_eq_true, Bool.or_eq_true, Bool.not_eq_true, Bool.not_eq_false, beq_eq_false_iff_ne, bne_eq_false_iff_eq, Bool.not_eq_true', Bool.not_eq_false', Int.ofNat_lt, Int.ofNat_le, Bool.or_eq_false_iff, Bool.and_eq_false_imp, Decidable.not_not, gt_iff_lt, ge_iff_le] at hn) <;> (try (exfalso; omega)) <;> (refine Todo.of ?_)) | (((with_reducible refine dwp_condA ?_ ?_ ?_); · rfl) <;> (refine Todo.of ?_)))) <;> (try (first | (with_reducible rfl) | exact Nat.le_refl _ | exact Int.le_refl _ | assumption | omega))
    all_goals (exfalso; apply q; refine ⟨?_, by omega, by omega, by omega, ?_⟩ <;> grind)
  obtain ⟨q1, q2, q3, q4, q5⟩ := q
  have hr : formF x = ((x.ins ++ x.outs).all (portOk x.en) && (onceF (pnames (x.ins ++ x.outs)) && shapeOk (shapeF x))) := by simp [formF, q1, q2, q3, q4, q5, Bool.and_assoc]
  rw [hr]
  clear hr
  have r1 := prt_rows x.ins
  have r2 := prt_rows x.outs
  rw [q1] at e1
  rw [q5] at e2
  (have hcondQ := Bool.and_self; refine Todo.of ?_); (repeat' (first | ((with_reducible refine Todo.to ?_); (repeat (first | (simp only [↓rP, rT, rU, eI, eU, eB, eS, eBs, eL, eA, buildCells, sepsD, sepB, hdl, dvalX, DOp.kind, dval, frameFrom, dBin, dInt, dStr, dBeq, dUn, dLoad, cellsAt, retV, retL, DR.val, fzT, fzVs, fzV, fz1, DV.immB, IntKind.bits, dCallP, viewVs, viewV, view1, capVL, capV, viewL, noMemV, noMem, elemsOf, dAppend, dAppz, dStore, DV.one, alive, freezeAt, fzLL, fzL, bRow, bU, cellsOf, setFrom, DV.isU, lenMax, Nat.reduceEqDiff, Nat.reduceAdd, ↓reduceIte, reduceCtorEq, Nat.reduceSub, Int.reduceToNat, Int.reducePow, Nat.reducePow, Int.reduceLE, Int.reduceLT, Nat.reduceLeDiff, Nat.reduceLT, Int.reduceBEq, Int.reduceBNe, Int.reduceEq, Int.reduceNe, Int.reduceAdd, Int.reduceSub, Int.reduceMul, Int.reduceNeg, Int.reduceTDiv, Int.reduceTMod, Int.reduceMod, Int.reduceDiv, Nat.reduceMul, forall_const, implies_true, d_noriaref34_Form, s_EnumsF_at, s_RightS_at, s_Low_at, s_RightTy_at, s_Once_at, s_Shape_at, s_ShapeOk_at, eChgs, eCloFnd, eEns, eIls, eImg, ePrt, ePrts, eRS, eRows, eShpF, eSlt, eSlts, eSs, eTy, eY, sls_len, ils_len, ils_rowsT, sls_rowsT, sls_tk0, ils_tk0, e1, e2, r1, r2 , hcondQ]) | (simp (disch := omega) only [i64_id, u64_id, u8_id, getD_map'])))) | ((with_reducible refine And.intro ?_ ?_); · first | trivial | omega | (simp; done) | (simp; omega)) | ((first | ((with_reducible refine dwp_condI (t := ?_) ?_ (fun hcQ => ?_) (fun hcQ => ?_)); rotate_left; · rfl) | ((with_reducible refine dops_guardI (t := ?_) ?_ (fun hcQ => ?_) (fun hcQ => ?_)); rotate_left; · rfl)) <;> (have hn := hcQ; have hcondQ := hcQ) <;> (try simp only [decide_eq_true_eq, decide_eq_false_iff_not, beq_iff_eq, bne_iff_ne, ne_eq, Bool.and_eq_true, Bool.or_eq_true, Bool.not_eq_true, Bool.not_eq_false, beq_eq_false_iff_ne, bne_eq_false_iff_eq, Bool.not_eq_true', Bool.not_eq_false', Int.ofNat_lt, Int.ofNat_le, Bool.or_eq_false_iff, Bool.and_eq_false_imp, Decidable.not_not, gt_iff_lt, ge_iff_le] at hn) <;> (try (exfalso; omega)) <;> (refine Todo.of ?_)) | (((with_reducible refine dwp_condA ?_ ?_ ?_); · rfl) <;> (refine Todo.of ?_)))) <;> (try (first | (with_reducible rfl) | exact Nat.le_refl _ | exact Int.le_refl _ | assumption | omega))
  refine dwp_each (x.ins ++ x.outs) (fun k (o : List (List UInt8)) => ⟨[(1, .ref (cImg x)), (3, .own 0 (x.ins.length + x.outs.length) 0 (x.ins.length + x.outs.length)), (4, .own 1 o.length 0 o.length), (5, .int .i64 k)], [⟨.imm, 4, (x.ins ++ x.outs).map cPrt⟩, ⟨.imm, 1, sls o⟩]⟩)
    (fun k r o => r.all (portOk x.en) = (x.ins ++ x.outs).all (portOk x.en) ∧ o ++ pnames r = pnames (x.ins ++ x.outs) ∧ o.length = k) [] (Nat.zero_le _) (by simp only [cut_some, cut_none, List.map_cons, List.map_nil, get_cons, Nk.get_nil, Nat.reduceEqDiff, ↓reduceIte, Nat.succ_ne_self, DV.cut, DV.inB, DObj.cut, List.take_nil, List.take_zero, if_true, Nat.zero_ne_one, Nat.one_ne_zero, DV.inBL, Bool.and_true, Bool.true_and, reduceCtorEq, Nat.zero_lt_one, decide_true, decide_false, Nat.reduceLT, List.take_succ_cons, Int.natCast_add, Int.natCast_one, List.length_append, List.length_cons, List.length_nil, Nat.zero_add, List.map_append] <;> rfl) ⟨rfl, rfl, rfl⟩ (fun k y r o d hy hd hr2 => ?_) (fun k o e hr2 => ?_)
  · obtain ⟨g1, g2, g3⟩ := hr2
    simp only [List.all_cons] at g1
    simp only [pnames, List.map_cons] at g2
    rw [List.length_append] at d
    have e3 := s_RightTy_at x.en y.ty
    simp only [cTy] at e3
    (have hcondQ := Bool.and_self; refine Todo.of ?_); (repeat' (first | ((with_reducible refine Todo.to ?_); (repeat (first | (simp only [↓rP, rT, rU, eI, eU, eB, eS, eBs, eL, eA, buildCells, sepsD, sepB, hdl, dvalX, DOp.kind, dval, frameFrom, dBin, dInt, dStr, dBeq, dUn, dLoad, cellsAt, retV, retL, DR.val, fzT, fzVs, fzV, fz1, DV.immB, IntKind.bits, dCallP, viewVs, viewV, view1, capVL, capV, viewL, noMemV, noMem, elemsOf, dAppend, dAppz, dStore, DV.one, alive, freezeAt, fzLL, fzL, bRow, bU, cellsOf, setFrom, DV.isU, lenMax, Nat.reduceEqDiff, Nat.reduceAdd, ↓reduceIte, reduceCtorEq, Nat.reduceSub, Int.reduceToNat, Int.reducePow, Nat.reducePow, Int.reduceLE, Int.reduceLT, Nat.reduceLeDiff, Nat.reduceLT, Int.reduceBEq, Int.reduceBNe, Int.reduceEq, Int.reduceNe, Int.reduceAdd, Int.reduceSub, Int.reduceMul, Int.reduceNeg, Int.reduceTDiv, Int.reduceTMod, Int.reduceMod, Int.reduceDiv, Nat.reduceMul, forall_const, implies_true, d_noriaref34_Form, s_EnumsF_at, s_RightS_at, s_Low_at, s_RightTy_at, s_Once_at, s_Shape_at, s_ShapeOk_at, eChgs, eCloFnd, eEns, eIls, eImg, ePrt, ePrts, eRS, eRows, eShpF, eSlt, eSlts, eSs, eTy, eY, sls_len, ils_len, ils_rowsT, sls_rowsT, sls_tk0, ils_tk0, d, map_getD cPrt hy, List.length_append, e3, sls_snoc , hcondQ]) | (simp (disch := omega) only [i64_id, u64_id, u8_id, getD_map'])))) | ((with_reducible refine And.intro ?_ ?_); · first | trivial | omega | (simp; done) | (simp; omega)) | ((first | ((with_reducible refine dwp_condI (t := ?_) ?_ (fun hcQ => ?_) (fun hcQ => ?_)); rotate_left; · rfl) | ((with_reducible refine dops_guardI (t := ?_) ?_ (fun hcQ => ?_) (fun hcQ => ?_)); rotate_left; · rfl)) <;> (have hn := hcQ; have hcondQ := hcQ) <;> (try simp only [decide_eq_true_eq, decide_eq_false_iff_not, beq_iff_eq, bne_iff_ne, ne_eq, Bool.and_eq_true, Bool.or_eq_true, Bool.not_eq_true, Bool.not_eq_false, beq_eq_false_iff_ne, bne_eq_false_iff_eq, Bool.not_eq_true', Bool.not_eq_false', Int.ofNat_lt, Int.ofNat_le, Bool.or_eq_false_iff, Bool.and_eq_false_imp, Decidable.not_not, gt_iff_lt, ge_iff_le] at hn) <;> (try (exfalso; omega)) <;> (refine Todo.of ?_)) | (((with_reducible refine dwp_condA ?_ ?_ ?_); · rfl) <;> (refine Todo.of ?_)))) <;> (try (first | (with_reducible rfl) | exact Nat.le_refl _ | exact Int.le_refl _ | assumption | omega))
    all_goals first
      | exact ⟨o ++ [y.name], by simp only [cut_some, cut_none, List.map_cons, List.map_nil, get_cons, Nk.get_nil, Nat.reduceEqDiff, ↓reduceIte, Nat.succ_ne_self, DV.cut, DV.inB, DObj.cut, List.take_nil, List.take_zero, if_true, Nat.zero_ne_one, Nat.one_ne_zero, DV.inBL, Bool.and_true, Bool.true_and, reduceCtorEq, Nat.zero_lt_one, decide_true, decide_false, Nat.reduceLT, List.take_succ_cons, Int.natCast_add, Int.natCast_one, List.length_append, List.length_cons, List.length_nil, Nat.zero_add, List.map_append] <;> rfl, by grind [portOk], by simpa [pnames] using g2, by simp [g3]⟩
      | grind [portOk]
      | trace_state
  obtain ⟨g1, g2, g3⟩ := hr2
  simp only [List.all_nil] at g1
  rw [← g1, Bool.true_and]
  rw [show pnames [] = [] from rfl, List.append_nil] at g2
  rw [← g2]
  rw [List.length_append] at e
  have e3 := s_Once_at o
  rw [eq_true (show o.length ≤ 1000000000 by omega)] at e3
  have e4 := s_Shape_at x
  rw [eq_true h1'] at e4
  have e5 := s_ShapeOk_at (shapeF x)
  simp only [cImg] at e4
  (have hcondQ := Bool.and_self; refine Todo.of ?_); (repeat' (first | ((with_reducible refine Todo.to ?_); (repeat (first | (simp only [↓rP, rT, rU, eI, eU, eB, eS, eBs, eL, eA, buildCells, sepsD, sepB, hdl, dvalX, DOp.kind, dval, frameFrom, dBin, dInt, dStr, dBeq, dUn, dLoad, cellsAt, retV, retL, DR.val, fzT, fzVs, fzV, fz1, DV.immB, IntKind.bits, dCallP, viewVs, viewV, view1, capVL, capV, viewL, noMemV, noMem, elemsOf, dAppend, dAppz, dStore, DV.one, alive, freezeAt, fzLL, fzL, bRow, bU, cellsOf, setFrom, DV.isU, lenMax, Nat.reduceEqDiff, Nat.reduceAdd, ↓reduceIte, reduceCtorEq, Nat.reduceSub, Int.reduceToNat, Int.reducePow, Nat.reducePow, Int.reduceLE, Int.reduceLT, Nat.reduceLeDiff, Nat.reduceLT, Int.reduceBEq, Int.reduceBNe, Int.reduceEq, Int.reduceNe, Int.reduceAdd, Int.reduceSub, Int.reduceMul, Int.reduceNeg, Int.reduceTDiv, Int.reduceTMod, Int.reduceMod, Int.reduceDiv, Nat.reduceMul, forall_const, implies_true, d_noriaref34_Form, s_EnumsF_at, s_RightS_at, s_Low_at, s_RightTy_at, s_Once_at, s_Shape_at, s_ShapeOk_at, eChgs, eCloFnd, eEns, eIls, eImg, ePrt, ePrts, eRS, eRows, eShpF, eSlt, eSlts, eSs, eTy, eY, sls_len, ils_len, ils_rowsT, sls_rowsT, sls_tk0, ils_tk0, e, e3, e4, e5, sls_tk0 , hcondQ]) | (simp (disch := omega) only [i64_id, u64_id, u8_id, getD_map'])))) | ((with_reducible refine And.intro ?_ ?_); · first | trivial | omega | (simp; done) | (simp; omega)) | ((first | ((with_reducible refine dwp_condI (t := ?_) ?_ (fun hcQ => ?_) (fun hcQ => ?_)); rotate_left; · rfl) | ((with_reducible refine dops_guardI (t := ?_) ?_ (fun hcQ => ?_) (fun hcQ => ?_)); rotate_left; · rfl)) <;> (have hn := hcQ; have hcondQ := hcQ) <;> (try simp only [decide_eq_true_eq, decide_eq_false_iff_not, beq_iff_eq, bne_iff_ne, ne_eq, Bool.and_eq_true, Bool.or_eq_true, Bool.not_eq_true, Bool.not_eq_false, beq_eq_false_iff_ne, bne_eq_false_iff_eq, Bool.not_eq_true', Bool.not_eq_false', Int.ofNat_lt, Int.ofNat_le, Bool.or_eq_false_iff, Bool.and_eq_false_imp, Decidable.not_not, gt_iff_lt, ge_iff_le] at hn) <;> (try (exfalso; omega)) <;> (refine Todo.of ?_)) | (((with_reducible refine dwp_condA ?_ ?_ ?_); · rfl) <;> (refine Todo.of ?_)))) <;> (try (first | (with_reducible rfl) | exact Nat.le_refl _ | exact Int.le_refl _ | assumption | omega))
  all_goals grind

theorem aeqC (a b : List UInt8) (n m : Int) : dAeq false [2, 0] (.agg [.str a, .int .i64 n]) (.agg [.str b, .int .i64 m]) = (True, .bool (a == b && n == m)) := by
  have : eqCells [2, 0] [.str a, .int .i64 n] [.str b, .int .i64 m] = some (a == b && n == m) := by
    simp only [eqCells, if_true]
    cases (a == b) <;> cases (n == m) <;> rfl
  simp only [dAeq, this]
  simp
def hasF (l : List Chg) (p : List UInt8) (w : Int) : Bool := l.any fun c => c.path == p && c.what == w
noncomputable def s_has : List DV → Prop × DV := spec3 eChgs eS eI fun l p w => (l.length ≤ 1000000, .bool (hasF l p w))
theorem s_has_at (l : List Chg) (p : List UInt8) (w : Int) : s_has [.sl (l.map cChg), .str p, .int .i64 w] = (l.length ≤ 1000000, .bool (hasF l p w)) := spec3_at inj_Chgs inj_S inj_I _ l p w
theorem ok_norialaw39_has : OkP Try.prog 14 s_has := by
  refine OkP.mk3 (ps := []) (hs := []) trivial trivial m_norialaw39_has fun l p w h => ?_
  try dsimp only at h
  have h : l.length ≤ 1000000 := h
  (have hcondQ := Bool.and_self; refine Todo.of ?_); (repeat' (first | ((with_reducible refine Todo.to ?_); (repeat (first | (simp only [↓rP, rT, rU, eI, eU, eB, eS, eBs, eL, eA, buildCells, sepsD, sepB, hdl, dvalX, DOp.kind, dval, frameFrom, dBin, dInt, dStr, dBeq, dUn, dLoad, cellsAt, retV, retL, DR.val, fzT, fzVs, fzV, fz1, DV.immB, IntKind.bits, dCallP, viewVs, viewV, view1, capVL, capV, viewL, noMemV, noMem, elemsOf, dAppend, dAppz, dStore, DV.one, alive, freezeAt, fzLL, fzL, bRow, bU, cellsOf, setFrom, DV.isU, lenMax, Nat.reduceEqDiff, Nat.reduceAdd, ↓reduceIte, reduceCtorEq, Nat.reduceSub, Int.reduceToNat, Int.reducePow, Nat.reducePow, Int.reduceLE, Int.reduceLT, Nat.reduceLeDiff, Nat.reduceLT, Int.reduceBEq, Int.reduceBNe, Int.reduceEq, Int.reduceNe, Int.reduceAdd, Int.reduceSub, Int.reduceMul, Int.reduceNeg, Int.reduceTDiv, Int.reduceTMod, Int.reduceMod, Int.reduceDiv, Nat.reduceMul, forall_const, implies_true, d_norialaw39_has, eChgs, eCloFnd, eEns, eIls, eImg, ePrt, ePrts, eRS, eRows, eShpF, eSlt, eSlts, eSs, eTy, eY, sls_len, ils_len, ils_rowsT, sls_rowsT, sls_tk0, ils_tk0 , hcondQ]) | (simp (disch := omega) only [i64_id, u64_id, u8_id, getD_map'])))) | ((with_reducible refine And.intro ?_ ?_); · first | trivial | omega | (simp; done) | (simp; omega)) | ((first | ((with_reducible refine dwp_condI (t := ?_) ?_ (fun hcQ => ?_) (fun hcQ => ?_)); rotate_left; · rfl) | ((with_reducible refine dops_guardI (t := ?_) ?_ (fun hcQ => ?_) (fun hcQ => ?_)); rotate_left; · rfl)) <;> (have hn := hcQ; have hcondQ := hcQ) <;> (try simp only [decide_eq_true_eq, decide_eq_false_iff_not, beq_iff_eq, bne_iff_ne, ne_eq, Bool.and_eq_true, Bool.or_eq_true, Bool.not_eq_true, Bool.not_eq_false, beq_eq_false_iff_ne, bne_eq_false_iff_eq, Bool.not_eq_true', Bool.not_eq_false', Int.ofNat_lt, Int.ofNat_le, Bool.or_eq_false_iff, Bool.and_eq_false_imp, Decidable.not_not, gt_iff_lt, ge_iff_le] at hn) <;> (try (exfalso; omega)) <;> (refine Todo.of ?_)) | (((with_reducible refine dwp_condA ?_ ?_ ?_); · rfl) <;> (refine Todo.of ?_)))) <;> (try (first | (with_reducible rfl) | exact Nat.le_refl _ | exact Int.le_refl _ | assumption | omega))
  refine dwp_each l (fun k (_ : Unit) => ⟨[(0, .sl (l.map cChg)), (1, .str p), (2, .int .i64 w), (7, .int .i64 k)], []⟩) (fun k r _ => hasF r p w = hasF l p w) () (Nat.zero_le _) (by simp only [cut_some, cut_none, List.map_cons, List.map_nil, get_cons, Nk.get_nil, Nat.reduceEqDiff, ↓reduceIte, Nat.succ_ne_self, DV.cut, DV.inB, DObj.cut, List.take_nil, List.take_zero, if_true, Nat.zero_ne_one, Nat.one_ne_zero, DV.inBL, Bool.and_true, Bool.true_and, reduceCtorEq, Nat.zero_lt_one, decide_true, decide_false, Nat.reduceLT, List.take_succ_cons, Int.natCast_add, Int.natCast_one, List.length_append, List.length_cons, List.length_nil, Nat.zero_add] <;> rfl) rfl (fun k x r _ d hx hd hr => ?_) (fun k _ e hr => ?_)
  · simp only [hasF, List.any_cons] at hr
    cases q : (x.path == p && x.what == w)
    · rw [q, Bool.false_or] at hr
      (have hcondQ := Bool.and_self; refine Todo.of ?_); (repeat' (first | ((with_reducible refine Todo.to ?_); (repeat (first | (simp only [↓rP, rT, rU, eI, eU, eB, eS, eBs, eL, eA, buildCells, sepsD, sepB, hdl, dvalX, DOp.kind, dval, frameFrom, dBin, dInt, dStr, dBeq, dUn, dLoad, cellsAt, retV, retL, DR.val, fzT, fzVs, fzV, fz1, DV.immB, IntKind.bits, dCallP, viewVs, viewV, view1, capVL, capV, viewL, noMemV, noMem, elemsOf, dAppend, dAppz, dStore, DV.one, alive, freezeAt, fzLL, fzL, bRow, bU, cellsOf, setFrom, DV.isU, lenMax, Nat.reduceEqDiff, Nat.reduceAdd, ↓reduceIte, reduceCtorEq, Nat.reduceSub, Int.reduceToNat, Int.reducePow, Nat.reducePow, Int.reduceLE, Int.reduceLT, Nat.reduceLeDiff, Nat.reduceLT, Int.reduceBEq, Int.reduceBNe, Int.reduceEq, Int.reduceNe, Int.reduceAdd, Int.reduceSub, Int.reduceMul, Int.reduceNeg, Int.reduceTDiv, Int.reduceTMod, Int.reduceMod, Int.reduceDiv, Nat.reduceMul, forall_const, implies_true, d_norialaw39_has, eChgs, eCloFnd, eEns, eIls, eImg, ePrt, ePrts, eRS, eRows, eShpF, eSlt, eSlts, eSs, eTy, eY, sls_len, ils_len, ils_rowsT, sls_rowsT, sls_tk0, ils_tk0, d, map_getD cChg hx, aeqC, q , hcondQ]) | (simp (disch := omega) only [i64_id, u64_id, u8_id, getD_map'])))) | ((with_reducible refine And.intro ?_ ?_); · first | trivial | omega | (simp; done) | (simp; omega)) | ((first | ((with_reducible refine dwp_condI (t := ?_) ?_ (fun hcQ => ?_) (fun hcQ => ?_)); rotate_left; · rfl) | ((with_reducible refine dops_guardI (t := ?_) ?_ (fun hcQ => ?_) (fun hcQ => ?_)); rotate_left; · rfl)) <;> (have hn := hcQ; have hcondQ := hcQ) <;> (try simp only [decide_eq_true_eq, decide_eq_false_iff_not, beq_iff_eq, bne_iff_ne, ne_eq, Bool.and_eq_true, Bool.or_eq_true, Bool.not_eq_true, Bool.not_eq_false, beq_eq_false_iff_ne, bne_eq_false_iff_eq, Bool.not_eq_true', Bool.not_eq_false', Int.ofNat_lt, Int.ofNat_le, Bool.or_eq_false_iff, Bool.and_eq_false_imp, Decidable.not_not, gt_iff_lt, ge_iff_le] at hn) <;> (try (exfalso; omega)) <;> (refine Todo.of ?_)) | (((with_reducible refine dwp_condA ?_ ?_ ?_); · rfl) <;> (refine Todo.of ?_)))) <;> (try (first | (with_reducible rfl) | exact Nat.le_refl _ | exact Int.le_refl _ | assumption | omega))
      exact ⟨(), by simp only [cut_some, cut_none, List.map_cons, List.map_nil, get_cons, Nk.get_nil, Nat.reduceEqDiff, ↓reduceIte, Nat.succ_ne_self, DV.cut, DV.inB, DObj.cut, List.take_nil, List.take_zero, if_true, Nat.zero_ne_one, Nat.one_ne_zero, DV.inBL, Bool.and_true, Bool.true_and, reduceCtorEq, Nat.zero_lt_one, decide_true, decide_false, Nat.reduceLT, List.take_succ_cons, Int.natCast_add, Int.natCast_one, List.length_append, List.length_cons, List.length_nil, Nat.zero_add] <;> rfl, hr⟩
    · rw [q, Bool.true_or] at hr
      have hr' : hasF l p w = true := hr.symm
      (have hcondQ := Bool.and_self; refine Todo.of ?_); (repeat' (first | ((with_reducible refine Todo.to ?_); (repeat (first | (simp only [↓rP, rT, rU, eI, eU, eB, eS, eBs, eL, eA, buildCells, sepsD, sepB, hdl, dvalX, DOp.kind, dval, frameFrom, dBin, dInt, dStr, dBeq, dUn, dLoad, cellsAt, retV, retL, DR.val, fzT, fzVs, fzV, fz1, DV.immB, IntKind.bits, dCallP, viewVs, viewV, view1, capVL, capV, viewL, noMemV, noMem, elemsOf, dAppend, dAppz, dStore, DV.one, alive, freezeAt, fzLL, fzL, bRow, bU, cellsOf, setFrom, DV.isU, lenMax, Nat.reduceEqDiff, Nat.reduceAdd, ↓reduceIte, reduceCtorEq, Nat.reduceSub, Int.reduceToNat, Int.reducePow, Nat.reducePow, Int.reduceLE, Int.reduceLT, Nat.reduceLeDiff, Nat.reduceLT, Int.reduceBEq, Int.reduceBNe, Int.reduceEq, Int.reduceNe, Int.reduceAdd, Int.reduceSub, Int.reduceMul, Int.reduceNeg, Int.reduceTDiv, Int.reduceTMod, Int.reduceMod, Int.reduceDiv, Nat.reduceMul, forall_const, implies_true, d_norialaw39_has, eChgs, eCloFnd, eEns, eIls, eImg, ePrt, ePrts, eRS, eRows, eShpF, eSlt, eSlts, eSs, eTy, eY, sls_len, ils_len, ils_rowsT, sls_rowsT, sls_tk0, ils_tk0, d, map_getD cChg hx, aeqC, q, hr' , hcondQ]) | (simp (disch := omega) only [i64_id, u64_id, u8_id, getD_map'])))) | ((with_reducible refine And.intro ?_ ?_); · first | trivial | omega | (simp; done) | (simp; omega)) | ((first | ((with_reducible refine dwp_condI (t := ?_) ?_ (fun hcQ => ?_) (fun hcQ => ?_)); rotate_left; · rfl) | ((with_reducible refine dops_guardI (t := ?_) ?_ (fun hcQ => ?_) (fun hcQ => ?_)); rotate_left; · rfl)) <;> (have hn := hcQ; have hcondQ := hcQ) <;> (try simp only [decide_eq_true_eq, decide_eq_false_iff_not, beq_iff_eq, bne_iff_ne, ne_eq, Bool.and_eq_true, Bool.or_eq_true, Bool.not_eq_true, Bool.not_eq_false, beq_eq_false_iff_ne, bne_eq_false_iff_eq, Bool.not_eq_true', Bool.not_eq_false', Int.ofNat_lt, Int.ofNat_le, Bool.or_eq_false_iff, Bool.and_eq_false_imp, Decidable.not_not, gt_iff_lt, ge_iff_le] at hn) <;> (try (exfalso; omega)) <;> (refine Todo.of ?_)) | (((with_reducible refine dwp_condA ?_ ?_ ?_); · rfl) <;> (refine Todo.of ?_)))) <;> (try (first | (with_reducible rfl) | exact Nat.le_refl _ | exact Int.le_refl _ | assumption | omega))
  · have hr' : hasF l p w = false := hr.symm
    (have hcondQ := Bool.and_self; refine Todo.of ?_); (repeat' (first | ((with_reducible refine Todo.to ?_); (repeat (first | (simp only [↓rP, rT, rU, eI, eU, eB, eS, eBs, eL, eA, buildCells, sepsD, sepB, hdl, dvalX, DOp.kind, dval, frameFrom, dBin, dInt, dStr, dBeq, dUn, dLoad, cellsAt, retV, retL, DR.val, fzT, fzVs, fzV, fz1, DV.immB, IntKind.bits, dCallP, viewVs, viewV, view1, capVL, capV, viewL, noMemV, noMem, elemsOf, dAppend, dAppz, dStore, DV.one, alive, freezeAt, fzLL, fzL, bRow, bU, cellsOf, setFrom, DV.isU, lenMax, Nat.reduceEqDiff, Nat.reduceAdd, ↓reduceIte, reduceCtorEq, Nat.reduceSub, Int.reduceToNat, Int.reducePow, Nat.reducePow, Int.reduceLE, Int.reduceLT, Nat.reduceLeDiff, Nat.reduceLT, Int.reduceBEq, Int.reduceBNe, Int.reduceEq, Int.reduceNe, Int.reduceAdd, Int.reduceSub, Int.reduceMul, Int.reduceNeg, Int.reduceTDiv, Int.reduceTMod, Int.reduceMod, Int.reduceDiv, Nat.reduceMul, forall_const, implies_true, d_norialaw39_has, eChgs, eCloFnd, eEns, eIls, eImg, ePrt, ePrts, eRS, eRows, eShpF, eSlt, eSlts, eSs, eTy, eY, sls_len, ils_len, ils_rowsT, sls_rowsT, sls_tk0, ils_tk0, e, hr' , hcondQ]) | (simp (disch := omega) only [i64_id, u64_id, u8_id, getD_map'])))) | ((with_reducible refine And.intro ?_ ?_); · first | trivial | omega | (simp; done) | (simp; omega)) | ((first | ((with_reducible refine dwp_condI (t := ?_) ?_ (fun hcQ => ?_) (fun hcQ => ?_)); rotate_left; · rfl) | ((with_reducible refine dops_guardI (t := ?_) ?_ (fun hcQ => ?_) (fun hcQ => ?_)); rotate_left; · rfl)) <;> (have hn := hcQ; have hcondQ := hcQ) <;> (try simp only [decide_eq_true_eq, decide_eq_false_iff_not, beq_iff_eq, bne_iff_ne, ne_eq, Bool.and_eq_true, Bool.or_eq_true, Bool.not_eq_true, Bool.not_eq_false, beq_eq_false_iff_ne, bne_eq_false_iff_eq, Bool.not_eq_true', Bool.not_eq_false', Int.ofNat_lt, Int.ofNat_le, Bool.or_eq_false_iff, Bool.and_eq_false_imp, Decidable.not_not, gt_iff_lt, ge_iff_le] at hn) <;> (try (exfalso; omega)) <;> (refine Todo.of ?_)) | (((with_reducible refine dwp_condA ?_ ?_ ?_); · rfl) <;> (refine Todo.of ?_)))) <;> (try (first | (with_reducible rfl) | exact Nat.le_refl _ | exact Int.le_refl _ | assumption | omega))

/-! What is told. -/
theorem onceF_names {l : List En} (h : enumsF l = 0) : (namesF l).Pairwise (· ≠ ·) := by
  unfold enumsF at h
  split at h
  · cases h
  · split at h
    · cases h
    · split at h
      · cases h
      · split at h
        · rename_i hh
          rw [Bool.and_eq_true] at hh
          exact of_decide_eq_true hh.1
        · cases h
theorem sameEn_ne {l : List En} (h : enumsF l = 0) {i j : Nat} (hij : i < j) (hj : j < l.length) : sameEn (l.getD j default) (l.getD i default) = false := by
  have hp := onceF_names h
  rw [List.pairwise_iff_getElem] at hp
  have := hp i j (by simp [namesF]; omega) (by simpa [namesF] using hj) hij
  simp only [namesF, List.getElem_map] at this
  have g1 : l.getD j default = l[j] := by simp [hj]
  have g2 : l.getD i default = l[i]'(by omega) := by simp [show i < l.length by omega]
  rw [g1, g2]
  simp only [sameEn, Bool.and_eq_false_imp, decide_eq_true_eq, decide_eq_false_iff_not]
  intro e
  exact absurd e.symm this
theorem hereG_self {l : List En} (h : enumsF l = 0) {e : Nat} {n : Int} (he : e < l.length) (hr : rightTy l ⟨3, e, n⟩ = true) :
    ∀ (m i : Nat), i + m = e → hereG l l ⟨3, e, n⟩ (l.drop i) i = (⟨3, e, n⟩, true) := by
  have hone : rightTy l ⟨3, (e : Int), 0⟩ = true := by
    simp only [rightTy] at hr ⊢
    simp at hr ⊢
    exact hr.2
  intro m
  induction m with
  | zero =>
    intro i hi
    have : i = e := by omega
    subst this
    rw [List.drop_eq_getElem_cons he]
    refine hereG_yes ?_
    simp only [alikeF, oneT, hone, Bool.true_and, beq_self_eq_true, if_true, sameEn]
    simp
  | succ m ih =>
    intro i hi
    rw [List.drop_eq_getElem_cons (by omega)]
    rw [hereG_no, ← ih (i + 1) (by omega)]
    · rfl
    · simp only [alikeF, oneT, hone, Bool.true_and, beq_self_eq_true, if_true]
      simp only [Int.toNat_natCast]
      rw [sameEn_ne h (by omega) he, Bool.and_false]
theorem here_self {l : List En} (h : enumsF l = 0) {t : Ty} (hr : rightTy l t = true) : hereF l l t = (t, true) := by
  unfold hereF
  rw [if_pos hr]
  by_cases k3 : t.k = 3
  · rw [if_pos k3]
    obtain ⟨tk, te, tn⟩ := t
    simp only at k3
    subst k3
    obtain ⟨e, rfl, he⟩ : ∃ e : Nat, te = e ∧ e < l.length := by
      simp only [rightTy, if_true, Bool.and_eq_true, decide_eq_true_eq] at hr
      exact ⟨te.toNat, by omega, by omega⟩
    exact hereG_self h he hr e 0 (by omega)
  · rw [if_neg k3]
theorem slotsR_at {l : List En} {s : List Slt} : ∀ (r : List Slt) (k : Nat), slotsR l s r k = true → ∀ (j : Nat) (x : Slt), r[j]? = some x → slotOk l s (k + j) x = true
  | [], _, _, j, x, h => by simp at h
  | y :: r, k, h, j, x, hx => by
    simp only [slotsR, Bool.and_eq_true] at h
    cases j with
    | zero => simp at hx; subst hx; exact h.1
    | succ j =>
      have := slotsR_at r (k + 1) h.2 j x (by simpa using hx)
      rw [show k + (j + 1) = k + 1 + j by omega]
      exact this
def keptF (x : Img) : List Chg := x.slots.map fun s => ⟨s.path, 1⟩
theorem diff_self {x : Img} (h : formF x = true) : diffF x x = keptF x := by
  simp only [formF, Bool.and_eq_true, beq_iff_eq] at h
  obtain ⟨⟨⟨⟨⟨⟨⟨h1, _⟩, _⟩, _⟩, h2⟩, _⟩, _⟩, _⟩ := h
  simp only [rightS, Bool.and_eq_true] at h2
  have hs := slotsR_at x.slots 0 h2.2
  have hk : ∀ s ∈ x.slots, ∃ k : Nat, fndI x.slots s.path = k ∧ x.slots[k]? = some s ∧ rightTy x.en s.ty = true := by
    intro s hs'
    obtain ⟨k, hk, rfl⟩ := List.mem_iff_getElem.1 hs'
    have hx : x.slots[k]? = some x.slots[k] := List.getElem?_eq_getElem hk
    have := hs k _ hx
    simp only [slotOk, rightV, Bool.and_eq_true, beq_iff_eq] at this
    exact ⟨k, by rw [this.2]; simp, hx, this.1.1.2.1.1⟩
  have hg : goneF x x.slots = [] := by
    simp only [goneF, List.map_eq_nil_iff, List.filter_eq_nil_iff, decide_eq_true_eq]
    intro s hs' hn
    obtain ⟨k, e, _, _⟩ := hk s hs'
    omega
  have hn : newF x x = keptF x := by
    simp only [newF, keptF]
    refine List.map_congr_left fun s hs' => ?_
    obtain ⟨k, e, e2, e3⟩ := hk s hs'
    have : whatF x x s = 1 := by
      simp only [whatF, e, Int.toNat_natCast]
      rw [if_neg (by omega), getD_some e2, here_self h1 e3]
      simp [whatG, eqT]
    rw [this]
  rw [diffF, hg, hn, List.append_nil]
theorem what_three {a b : Img} {s : Slt} : whatF a b s = 3 ↔ fndI a.slots s.path < 0 := by
  unfold whatF
  split
  · simp_all
  · unfold whatG
    split <;> simp_all
theorem what_four {a b : Img} {s : Slt} : whatF a b s ≠ 4 := by
  unfold whatF
  split
  · decide
  · unfold whatG
    split <;> decide
theorem diff_back {a b : Img} {c : Chg} (h : c ∈ diffF a b) : (c.what = 3 → hasF (diffF b a) c.path 4 = true) ∧ (c.what = 4 → hasF (diffF b a) c.path 3 = true) := by
  have hm : ∀ (w : Int) (d : Chg), d ∈ diffF b a → d.path = c.path → d.what = w → hasF (diffF b a) c.path w = true := by
    intro w d hd h1 h2
    rw [hasF, List.any_eq_true]
    exact ⟨d, hd, by simp [h1, h2]⟩
  simp only [diffF, newF, goneF, List.mem_append, List.mem_map, List.mem_filter, decide_eq_true_eq] at h
  rcases h with ⟨s, hs, rfl⟩ | ⟨s, ⟨hs, hf⟩, rfl⟩
  · refine ⟨fun h3 => ?_, fun h4 => absurd h4 what_four⟩
    refine hm 4 ⟨s.path, 4⟩ ?_ rfl rfl
    simp only [diffF, goneF, List.mem_append, List.mem_map, List.mem_filter, decide_eq_true_eq]
    exact .inr ⟨s, ⟨hs, what_three.1 h3⟩, rfl⟩
  · refine ⟨fun h3 => by simp at h3, fun _ => ?_⟩
    refine hm 3 ⟨s.path, whatF b a s⟩ ?_ rfl (what_three.2 hf)
    simp only [diffF, newF, List.mem_append, List.mem_map]
    exact .inl ⟨s, hs, rfl⟩
end Go.Proofs.Ytekbacebbflidaa
