/- Zeros of a type; a cell's kind; digits of numbers. -/
import Derived.Test.YtaoabkpfidbogaaDoorTyH
import Derived.Test.YtaoabkpfidbogaaDoorVls
import Derived.Test.YtaoabkpfidbogaaDoorRaw
import Derived.Lib.ItoaNum
import Derived.Lib.Join
import Derived.Test.YtaoabkpfidbogaaDoorShA
import Derived.Test.YtaoabkpfidbogaaDoorOnE
set_option linter.all false
set_option maxRecDepth 20000
namespace Go.Proofs.YtaoabkpfidbogaaDoor
open Go.Nk

def zeroV (t : Ty) : List Int := List.replicate (cellsTy t).toNat 0
noncomputable def s_Zero : List DV → Prop × DV := spec1 eTy fun t => (True, .sl (ils (zeroV t)))
theorem s_Zero_at (t : Ty) : s_Zero [.agg (cTy t)] = (True, .sl (ils (zeroV t))) := spec1_at inj_Ty _ t
theorem ok_val_Zero : OkP Tryd.prog 13 s_Zero := by
  refine OkP.mk1 (ps := [(30, s_CellsTy)]) (hs := []) ⟨ok_CellsTy, trivial⟩ trivial m_val_Zero fun t _ => ?_
  have hb := cellsTy_b t
  unfold zeroV
  (have hcondQ := Bool.and_self; refine Todo.of ?_); (repeat' (first | ((with_reducible refine Todo.to ?_); (repeat (first | (simp only [↓rP, rT, rU, eI, eU, eB, eS, eBs, eL, eA, buildCells, sepsD, sepB, hdl, dvalX, DOp.kind, dval, frameFrom, dBin, dInt, dStr, dBeq, dUn, dLoad, cellsAt, retV, retL, DR.val, fzT, fzVs, fzV, fz1, DV.immB, IntKind.bits, dCallP, viewVs, viewV, view1, capVL, capV, viewL, noMemV, noMem, elemsOf, dAppend, dAppz, dStore, DV.one, alive, freezeAt, fzLL, fzL, bRow, bU, cellsOf, setFrom, DV.isU, lenMax, lenCap, Nat.reduceEqDiff, Nat.reduceAdd, ↓reduceIte, reduceCtorEq, Nat.reduceSub, Int.reduceToNat, Int.reducePow, Nat.reducePow, Int.reduceLE, Int.reduceLT, Nat.reduceLeDiff, Nat.reduceLT, Int.reduceBEq, Int.reduceBNe, Int.reduceEq, Int.reduceNe, Int.reduceAdd, Int.reduceSub, Int.reduceMul, Int.reduceNeg, Int.reduceTDiv, Int.reduceTMod, Int.reduceMod, Int.reduceDiv, Nat.reduceMul, forall_const, implies_true, d_val_Zero, s_CellsTy_at, eEns, eIls, eImg, ePrt, ePrts, eRows, eSs, eTy, eY, sls_len, ils_len, ils_rowsT, sls_rowsT, sls_tk0, ils_tk0, s_RightTy_at, s_CellsTy_at, ils_rep , hcondQ]) | (simp (disch := omega) only [i64_id, u64_id, u8_id, getD_map'])))) | ((with_reducible refine And.intro ?_ ?_); · first | trivial | omega | (simp; done) | (simp; omega)) | ((first | ((with_reducible refine dwp_condI (t := ?_) ?_ (fun hcQ => ?_) (fun hcQ => ?_)); rotate_left; · rfl) | ((with_reducible refine dops_guardI (t := ?_) ?_ (fun hcQ => ?_) (fun hcQ => ?_)); rotate_left; · rfl)) <;> (have hn := hcQ; have hcondQ := hcQ) <;> (try simp only [decide_eq_true_eq, decide_eq_false_iff_not, beq_iff_eq, bne_iff_ne, ne_eq, Bool.and_eq_true, Bool.or_eq_true, Bool.not_eq_true, Bool.not_eq_false, beq_eq_false_iff_ne, bne_eq_false_iff_eq, Bool.not_eq_true', Bool.not_eq_false', Int.ofNat_lt, Int.ofNat_le, Bool.or_eq_false_iff, Bool.and_eq_false_imp, Decidable.not_not, gt_iff_lt, ge_iff_le] at hn) <;> (try (exfalso; omega)) <;> (refine Todo.of ?_)) | (((with_reducible refine dwp_condA ?_ ?_ ?_); · rfl) <;> (refine Todo.of ?_)))) <;> (try (first | (with_reducible rfl) | exact Nat.le_refl _ | exact Int.le_refl _ | assumption | omega))
  rw [ils_tk (by simp)]
theorem ok_noriaref06_Zero : OkP Tryd.prog 18 s_Zero := by
  refine OkP.mk1 (ps := [(32, s_CellsTy)]) (hs := []) ⟨ok_refCellsTy, trivial⟩ trivial m_noriaref06_Zero fun t _ => ?_
  have hb := cellsTy_b t
  have hcz : (cellsTy t).toNat ≤ 8 := by omega
  have hci : ((cellsTy t).toNat : Int) = cellsTy t := by omega
  unfold zeroV
  generalize hc : (cellsTy t).toNat = c at hci hcz
  have ec := s_CellsTy_at t
  rw [← hci] at ec
  simp only [cTy] at ec
  (have hcondQ := Bool.and_self; refine Todo.of ?_); (repeat' (first | ((with_reducible refine Todo.to ?_); (repeat (first | (simp only [↓rP, rT, rU, eI, eU, eB, eS, eBs, eL, eA, buildCells, sepsD, sepB, hdl, dvalX, DOp.kind, dval, frameFrom, dBin, dInt, dStr, dBeq, dUn, dLoad, cellsAt, retV, retL, DR.val, fzT, fzVs, fzV, fz1, DV.immB, IntKind.bits, dCallP, viewVs, viewV, view1, capVL, capV, viewL, noMemV, noMem, elemsOf, dAppend, dAppz, dStore, DV.one, alive, freezeAt, fzLL, fzL, bRow, bU, cellsOf, setFrom, DV.isU, lenMax, lenCap, Nat.reduceEqDiff, Nat.reduceAdd, ↓reduceIte, reduceCtorEq, Nat.reduceSub, Int.reduceToNat, Int.reducePow, Nat.reducePow, Int.reduceLE, Int.reduceLT, Nat.reduceLeDiff, Nat.reduceLT, Int.reduceBEq, Int.reduceBNe, Int.reduceEq, Int.reduceNe, Int.reduceAdd, Int.reduceSub, Int.reduceMul, Int.reduceNeg, Int.reduceTDiv, Int.reduceTMod, Int.reduceMod, Int.reduceDiv, Nat.reduceMul, forall_const, implies_true, d_noriaref06_Zero, s_CellsTy_at, eEns, eIls, eImg, ePrt, ePrts, eRows, eSs, eTy, eY, sls_len, ils_len, ils_rowsT, sls_rowsT, sls_tk0, ils_tk0, s_RightTy_at, s_CellsTy_at , hcondQ]) | (simp (disch := omega) only [i64_id, u64_id, u8_id, getD_map'])))) | ((with_reducible refine And.intro ?_ ?_); · first | trivial | omega | (simp; done) | (simp; omega)) | ((first | ((with_reducible refine dwp_condI (t := ?_) ?_ (fun hcQ => ?_) (fun hcQ => ?_)); rotate_left; · rfl) | ((with_reducible refine dops_guardI (t := ?_) ?_ (fun hcQ => ?_) (fun hcQ => ?_)); rotate_left; · rfl)) <;> (have hn := hcQ; have hcondQ := hcQ) <;> (try simp only [decide_eq_true_eq, decide_eq_false_iff_not, beq_iff_eq, bne_iff_ne, ne_eq, Bool.and_eq_true, Bool.or_eq_true, Bool.not_eq_true, Bool.not_eq_false, beq_eq_false_iff_ne, bne_eq_false_iff_eq, Bool.not_eq_true', Bool.not_eq_false', Int.ofNat_lt, Int.ofNat_le, Bool.or_eq_false_iff, Bool.and_eq_false_imp, Decidable.not_not, gt_iff_lt, ge_iff_le] at hn) <;> (try (exfalso; omega)) <;> (refine Todo.of ?_)) | (((with_reducible refine dwp_condA ?_ ?_ ?_); · rfl) <;> (refine Todo.of ?_)))) <;> (try (first | (with_reducible rfl) | exact Nat.le_refl _ | exact Int.le_refl _ | assumption | omega))
  refine dwp_loop (fun k : Nat => ⟨[(1, .ref (cTy t)), (3, .own 0 k 0 k), (4, .int .i64 k)], [⟨.imm, 1, ils (List.replicate k 0)⟩]⟩) (fun k => k ≤ c) (fun k => c - k) 0 (by exact Nat.zero_le _) (by simp only [cut_some, cut_none, List.map_cons, List.map_nil, get_cons, Nk.get_nil, Nat.reduceEqDiff, ↓reduceIte, Nat.succ_ne_self, DV.cut, DV.inB, DObj.cut, List.take_nil, List.take_zero, if_true, Nat.zero_ne_one, Nat.one_ne_zero, DV.inBL, Bool.and_true, Bool.true_and, reduceCtorEq, Nat.zero_lt_one, decide_true, decide_false, Nat.reduceLT, List.take_succ_cons, Int.natCast_add, Int.natCast_one, List.length_append, List.length_cons, List.length_nil, Nat.zero_add, ils, List.replicate_zero, List.map_nil] <;> rfl) (Nat.zero_le _) fun k hk => ?_
  have w : IntKind.i64.wrap ((k : Int) + 1) = ((k + 1 : Nat) : Int) := by rw [wrap_i64_id (by omega)]; omega
  have e2 : List.replicate k (0 : Int) ++ [0] = List.replicate (k + 1) 0 := by rw [List.replicate_succ']
  by_cases d : k < c
  · have d2 : (k : Int) < c := by omega
    (have hcondQ := Bool.and_self; refine Todo.of ?_); (repeat' (first | ((with_reducible refine Todo.to ?_); (repeat (first | (simp only [↓rP, rT, rU, eI, eU, eB, eS, eBs, eL, eA, buildCells, sepsD, sepB, hdl, dvalX, DOp.kind, dval, frameFrom, dBin, dInt, dStr, dBeq, dUn, dLoad, cellsAt, retV, retL, DR.val, fzT, fzVs, fzV, fz1, DV.immB, IntKind.bits, dCallP, viewVs, viewV, view1, capVL, capV, viewL, noMemV, noMem, elemsOf, dAppend, dAppz, dStore, DV.one, alive, freezeAt, fzLL, fzL, bRow, bU, cellsOf, setFrom, DV.isU, lenMax, lenCap, Nat.reduceEqDiff, Nat.reduceAdd, ↓reduceIte, reduceCtorEq, Nat.reduceSub, Int.reduceToNat, Int.reducePow, Nat.reducePow, Int.reduceLE, Int.reduceLT, Nat.reduceLeDiff, Nat.reduceLT, Int.reduceBEq, Int.reduceBNe, Int.reduceEq, Int.reduceNe, Int.reduceAdd, Int.reduceSub, Int.reduceMul, Int.reduceNeg, Int.reduceTDiv, Int.reduceTMod, Int.reduceMod, Int.reduceDiv, Nat.reduceMul, forall_const, implies_true, d_noriaref06_Zero, s_CellsTy_at, eEns, eIls, eImg, ePrt, ePrts, eRows, eSs, eTy, eY, sls_len, ils_len, ils_rowsT, sls_rowsT, sls_tk0, ils_tk0, s_RightTy_at, s_CellsTy_at, ec, d2, w, ils_snoc, e2, List.length_replicate, ils_len , hcondQ]) | (simp (disch := omega) only [i64_id, u64_id, u8_id, getD_map'])))) | ((with_reducible refine And.intro ?_ ?_); · first | trivial | omega | (simp; done) | (simp; omega)) | ((first | ((with_reducible refine dwp_condI (t := ?_) ?_ (fun hcQ => ?_) (fun hcQ => ?_)); rotate_left; · rfl) | ((with_reducible refine dops_guardI (t := ?_) ?_ (fun hcQ => ?_) (fun hcQ => ?_)); rotate_left; · rfl)) <;> (have hn := hcQ; have hcondQ := hcQ) <;> (try simp only [decide_eq_true_eq, decide_eq_false_iff_not, beq_iff_eq, bne_iff_ne, ne_eq, Bool.and_eq_true, Bool.or_eq_true, Bool.not_eq_true, Bool.not_eq_false, beq_eq_false_iff_ne, bne_eq_false_iff_eq, Bool.not_eq_true', Bool.not_eq_false', Int.ofNat_lt, Int.ofNat_le, Bool.or_eq_false_iff, Bool.and_eq_false_imp, Decidable.not_not, gt_iff_lt, ge_iff_le] at hn) <;> (try (exfalso; omega)) <;> (refine Todo.of ?_)) | (((with_reducible refine dwp_condA ?_ ?_ ?_); · rfl) <;> (refine Todo.of ?_)))) <;> (try (first | (with_reducible rfl) | exact Nat.le_refl _ | exact Int.le_refl _ | assumption | omega))
    exact ⟨k + 1, by simp only [cut_some, cut_none, List.map_cons, List.map_nil, get_cons, Nk.get_nil, Nat.reduceEqDiff, ↓reduceIte, Nat.succ_ne_self, DV.cut, DV.inB, DObj.cut, List.take_nil, List.take_zero, if_true, Nat.zero_ne_one, Nat.one_ne_zero, DV.inBL, Bool.and_true, Bool.true_and, reduceCtorEq, Nat.zero_lt_one, decide_true, decide_false, Nat.reduceLT, List.take_succ_cons, Int.natCast_add, Int.natCast_one, List.length_append, List.length_cons, List.length_nil, Nat.zero_add] <;> rfl, by omega, by omega⟩
  · have e : k = c := by omega
    subst e
    (have hcondQ := Bool.and_self; refine Todo.of ?_); (repeat' (first | ((with_reducible refine Todo.to ?_); (repeat (first | (simp only [↓rP, rT, rU, eI, eU, eB, eS, eBs, eL, eA, buildCells, sepsD, sepB, hdl, dvalX, DOp.kind, dval, frameFrom, dBin, dInt, dStr, dBeq, dUn, dLoad, cellsAt, retV, retL, DR.val, fzT, fzVs, fzV, fz1, DV.immB, IntKind.bits, dCallP, viewVs, viewV, view1, capVL, capV, viewL, noMemV, noMem, elemsOf, dAppend, dAppz, dStore, DV.one, alive, freezeAt, fzLL, fzL, bRow, bU, cellsOf, setFrom, DV.isU, lenMax, lenCap, Nat.reduceEqDiff, Nat.reduceAdd, ↓reduceIte, reduceCtorEq, Nat.reduceSub, Int.reduceToNat, Int.reducePow, Nat.reducePow, Int.reduceLE, Int.reduceLT, Nat.reduceLeDiff, Nat.reduceLT, Int.reduceBEq, Int.reduceBNe, Int.reduceEq, Int.reduceNe, Int.reduceAdd, Int.reduceSub, Int.reduceMul, Int.reduceNeg, Int.reduceTDiv, Int.reduceTMod, Int.reduceMod, Int.reduceDiv, Nat.reduceMul, forall_const, implies_true, d_noriaref06_Zero, s_CellsTy_at, eEns, eIls, eImg, ePrt, ePrts, eRows, eSs, eTy, eY, sls_len, ils_len, ils_rowsT, sls_rowsT, sls_tk0, ils_tk0, s_RightTy_at, s_CellsTy_at, ec , hcondQ]) | (simp (disch := omega) only [i64_id, u64_id, u8_id, getD_map'])))) | ((with_reducible refine And.intro ?_ ?_); · first | trivial | omega | (simp; done) | (simp; omega)) | ((first | ((with_reducible refine dwp_condI (t := ?_) ?_ (fun hcQ => ?_) (fun hcQ => ?_)); rotate_left; · rfl) | ((with_reducible refine dops_guardI (t := ?_) ?_ (fun hcQ => ?_) (fun hcQ => ?_)); rotate_left; · rfl)) <;> (have hn := hcQ; have hcondQ := hcQ) <;> (try simp only [decide_eq_true_eq, decide_eq_false_iff_not, beq_iff_eq, bne_iff_ne, ne_eq, Bool.and_eq_true, Bool.or_eq_true, Bool.not_eq_true, Bool.not_eq_false, beq_eq_false_iff_ne, bne_eq_false_iff_eq, Bool.not_eq_true', Bool.not_eq_false', Int.ofNat_lt, Int.ofNat_le, Bool.or_eq_false_iff, Bool.and_eq_false_imp, Decidable.not_not, gt_iff_lt, ge_iff_le] at hn) <;> (try (exfalso; omega)) <;> (refine Todo.of ?_)) | (((with_reducible refine dwp_condA ?_ ?_ ?_); · rfl) <;> (refine Todo.of ?_)))) <;> (try (first | (with_reducible rfl) | exact Nat.le_refl _ | exact Int.le_refl _ | assumption | omega))
    rw [ils_tk (by simp)]
def kindV (t : Ty) : Int := if t.k = 1 ∨ t.k = 2 then t.k else if t.k = 3 ∧ 0 ≤ t.e ∧ t.e ≤ 1000 then 3 + t.e else 0
noncomputable def s_Kind : List DV → Prop × DV := spec1 eTy fun t => (True, .int .i64 (kindV t))
theorem s_Kind_at (t : Ty) : s_Kind [.agg (cTy t)] = (True, .int .i64 (kindV t)) := spec1_at inj_Ty _ t
theorem ok_val_Kind : OkP Tryd.prog 19 s_Kind := by
  refine OkP.mk1 (ps := []) (hs := []) trivial trivial m_val_Kind fun t _ => ?_
  (have hcondQ := Bool.and_self; refine Todo.of ?_); (repeat' (first | ((with_reducible refine Todo.to ?_); (repeat (first | (simp only [↓rP, rT, rU, eI, eU, eB, eS, eBs, eL, eA, buildCells, sepsD, sepB, hdl, dvalX, DOp.kind, dval, frameFrom, dBin, dInt, dStr, dBeq, dUn, dLoad, cellsAt, retV, retL, DR.val, fzT, fzVs, fzV, fz1, DV.immB, IntKind.bits, dCallP, viewVs, viewV, view1, capVL, capV, viewL, noMemV, noMem, elemsOf, dAppend, dAppz, dStore, DV.one, alive, freezeAt, fzLL, fzL, bRow, bU, cellsOf, setFrom, DV.isU, lenMax, lenCap, Nat.reduceEqDiff, Nat.reduceAdd, ↓reduceIte, reduceCtorEq, Nat.reduceSub, Int.reduceToNat, Int.reducePow, Nat.reducePow, Int.reduceLE, Int.reduceLT, Nat.reduceLeDiff, Nat.reduceLT, Int.reduceBEq, Int.reduceBNe, Int.reduceEq, Int.reduceNe, Int.reduceAdd, Int.reduceSub, Int.reduceMul, Int.reduceNeg, Int.reduceTDiv, Int.reduceTMod, Int.reduceMod, Int.reduceDiv, Nat.reduceMul, forall_const, implies_true, d_val_Kind, eEns, eIls, eImg, ePrt, ePrts, eRows, eSs, eTy, eY, sls_len, ils_len, ils_rowsT, sls_rowsT, sls_tk0, ils_tk0, s_RightTy_at, s_CellsTy_at , hcondQ]) | (simp (disch := omega) only [i64_id, u64_id, u8_id, getD_map'])))) | ((with_reducible refine And.intro ?_ ?_); · first | trivial | omega | (simp; done) | (simp; omega)) | ((first | ((with_reducible refine dwp_condI (t := ?_) ?_ (fun hcQ => ?_) (fun hcQ => ?_)); rotate_left; · rfl) | ((with_reducible refine dops_guardI (t := ?_) ?_ (fun hcQ => ?_) (fun hcQ => ?_)); rotate_left; · rfl)) <;> (have hn := hcQ; have hcondQ := hcQ) <;> (try simp only [decide_eq_true_eq, decide_eq_false_iff_not, beq_iff_eq, bne_iff_ne, ne_eq, Bool.and_eq_true, Bool.or_eq_true, Bool.not_eq_true, Bool.not_eq_false, beq_eq_false_iff_ne, bne_eq_false_iff_eq, Bool.not_eq_true', Bool.not_eq_false', Int.ofNat_lt, Int.ofNat_le, Bool.or_eq_false_iff, Bool.and_eq_false_imp, Decidable.not_not, gt_iff_lt, ge_iff_le] at hn) <;> (try (exfalso; omega)) <;> (refine Todo.of ?_)) | (((with_reducible refine dwp_condA ?_ ?_ ?_); · rfl) <;> (refine Todo.of ?_)))) <;> (try (first | (with_reducible rfl) | exact Nat.le_refl _ | exact Int.le_refl _ | assumption | omega))
  all_goals (simp_all [kindV]; try omega)
theorem ok_noriaref06_Kind : OkP Tryd.prog 20 s_Kind := by
  refine OkP.mk1 (ps := []) (hs := []) trivial trivial m_noriaref06_Kind fun t _ => ?_
  (have hcondQ := Bool.and_self; refine Todo.of ?_); (repeat' (first | ((with_reducible refine Todo.to ?_); (repeat (first | (simp only [↓rP, rT, rU, eI, eU, eB, eS, eBs, eL, eA, buildCells, sepsD, sepB, hdl, dvalX, DOp.kind, dval, frameFrom, dBin, dInt, dStr, dBeq, dUn, dLoad, cellsAt, retV, retL, DR.val, fzT, fzVs, fzV, fz1, DV.immB, IntKind.bits, dCallP, viewVs, viewV, view1, capVL, capV, viewL, noMemV, noMem, elemsOf, dAppend, dAppz, dStore, DV.one, alive, freezeAt, fzLL, fzL, bRow, bU, cellsOf, setFrom, DV.isU, lenMax, lenCap, Nat.reduceEqDiff, Nat.reduceAdd, ↓reduceIte, reduceCtorEq, Nat.reduceSub, Int.reduceToNat, Int.reducePow, Nat.reducePow, Int.reduceLE, Int.reduceLT, Nat.reduceLeDiff, Nat.reduceLT, Int.reduceBEq, Int.reduceBNe, Int.reduceEq, Int.reduceNe, Int.reduceAdd, Int.reduceSub, Int.reduceMul, Int.reduceNeg, Int.reduceTDiv, Int.reduceTMod, Int.reduceMod, Int.reduceDiv, Nat.reduceMul, forall_const, implies_true, d_noriaref06_Kind, eEns, eIls, eImg, ePrt, ePrts, eRows, eSs, eTy, eY, sls_len, ils_len, ils_rowsT, sls_rowsT, sls_tk0, ils_tk0, s_RightTy_at, s_CellsTy_at , hcondQ]) | (simp (disch := omega) only [i64_id, u64_id, u8_id, getD_map'])))) | ((with_reducible refine And.intro ?_ ?_); · first | trivial | omega | (simp; done) | (simp; omega)) | ((first | ((with_reducible refine dwp_condI (t := ?_) ?_ (fun hcQ => ?_) (fun hcQ => ?_)); rotate_left; · rfl) | ((with_reducible refine dops_guardI (t := ?_) ?_ (fun hcQ => ?_) (fun hcQ => ?_)); rotate_left; · rfl)) <;> (have hn := hcQ; have hcondQ := hcQ) <;> (try simp only [decide_eq_true_eq, decide_eq_false_iff_not, beq_iff_eq, bne_iff_ne, ne_eq, Bool.and_eq_true, Bool.or_eq_true, Bool.not_eq_true, Bool.not_eq_false, beq_eq_false_iff_ne, bne_eq_false_iff_eq, Bool.not_eq_true', Bool.not_eq_false', Int.ofNat_lt, Int.ofNat_le, Bool.or_eq_false_iff, Bool.and_eq_false_imp, Decidable.not_not, gt_iff_lt, ge_iff_le] at hn) <;> (try (exfalso; omega)) <;> (refine Todo.of ?_)) | (((with_reducible refine dwp_condA ?_ ?_ ?_); · rfl) <;> (refine Todo.of ?_)))) <;> (try (first | (with_reducible rfl) | exact Nat.le_refl _ | exact Int.le_refl _ | assumption | omega))
  all_goals (simp_all [kindV]; try omega)
theorem ok_val_Same : OkP Tryd.prog 21 s_Vals := by
  refine OkP.mk2 (ps := [(33, s_Vals)]) (hs := []) ⟨ok_slices_Equal_int64_int64, trivial⟩ trivial m_val_Same fun a b h => ?_
  try dsimp only at h
  have h : a.length ≤ 17592186044416 := h
  have e := s_Vals_at a b
  rw [eq_true h] at e
  (have hcondQ := Bool.and_self; refine Todo.of ?_); (repeat' (first | ((with_reducible refine Todo.to ?_); (repeat (first | (simp only [↓rP, rT, rU, eI, eU, eB, eS, eBs, eL, eA, buildCells, sepsD, sepB, hdl, dvalX, DOp.kind, dval, frameFrom, dBin, dInt, dStr, dBeq, dUn, dLoad, cellsAt, retV, retL, DR.val, fzT, fzVs, fzV, fz1, DV.immB, IntKind.bits, dCallP, viewVs, viewV, view1, capVL, capV, viewL, noMemV, noMem, elemsOf, dAppend, dAppz, dStore, DV.one, alive, freezeAt, fzLL, fzL, bRow, bU, cellsOf, setFrom, DV.isU, lenMax, lenCap, Nat.reduceEqDiff, Nat.reduceAdd, ↓reduceIte, reduceCtorEq, Nat.reduceSub, Int.reduceToNat, Int.reducePow, Nat.reducePow, Int.reduceLE, Int.reduceLT, Nat.reduceLeDiff, Nat.reduceLT, Int.reduceBEq, Int.reduceBNe, Int.reduceEq, Int.reduceNe, Int.reduceAdd, Int.reduceSub, Int.reduceMul, Int.reduceNeg, Int.reduceTDiv, Int.reduceTMod, Int.reduceMod, Int.reduceDiv, Nat.reduceMul, forall_const, implies_true, d_val_Same, s_Vals_at, eEns, eIls, eImg, ePrt, ePrts, eRows, eSs, eTy, eY, sls_len, ils_len, ils_rowsT, sls_rowsT, sls_tk0, ils_tk0, s_RightTy_at, s_CellsTy_at, e , hcondQ]) | (simp (disch := omega) only [i64_id, u64_id, u8_id, getD_map'])))) | ((with_reducible refine And.intro ?_ ?_); · first | trivial | omega | (simp; done) | (simp; omega)) | ((first | ((with_reducible refine dwp_condI (t := ?_) ?_ (fun hcQ => ?_) (fun hcQ => ?_)); rotate_left; · rfl) | ((with_reducible refine dops_guardI (t := ?_) ?_ (fun hcQ => ?_) (fun hcQ => ?_)); rotate_left; · rfl)) <;> (have hn := hcQ; have hcondQ := hcQ) <;> (try simp only [decide_eq_true_eq, decide_eq_false_iff_not, beq_iff_eq, bne_iff_ne, ne_eq, Bool.and_eq_true, Bool.or_eq_true, Bool.not_eq_true, Bool.not_eq_false, beq_eq_false_iff_ne, bne_eq_false_iff_eq, Bool.not_eq_true', Bool.not_eq_false', Int.ofNat_lt, Int.ofNat_le, Bool.or_eq_false_iff, Bool.and_eq_false_imp, Decidable.not_not, gt_iff_lt, ge_iff_le] at hn) <;> (try (exfalso; omega)) <;> (refine Todo.of ?_)) | (((with_reducible refine dwp_condA ?_ ?_ ?_); · rfl) <;> (refine Todo.of ?_)))) <;> (try (first | (with_reducible rfl) | exact Nat.le_refl _ | exact Int.le_refl _ | assumption | omega))

/-! Digits. -/
theorem nDigits_le : ∀ (k u : Nat), 1 ≤ k → u < 10 ^ k → Lib.nDigits u ≤ k
  | 0, u, h, _ => by omega
  | k + 1, u, _, h => by
    by_cases hu : u < 10
    · rw [Lib.nDigits_small hu]; omega
    · rw [Lib.nDigits_big hu]
      have hk : 1 ≤ k := by
        rcases Nat.eq_zero_or_pos k with e | e
        · subst e; simp at h; omega
        · exact e
      have := nDigits_le k (u / 10) hk (by rw [Nat.pow_succ] at h; omega)
      omega
theorem itoa_len {n : Int} (h : okI64 n) : (Lib.itoa n).length ≤ 21 := by
  obtain ⟨h1, h2⟩ := h
  unfold Lib.itoa
  split
  · simp only [List.length_cons, Lib.decDigits_length]
    have := nDigits_le 20 n.natAbs (by decide) (by omega)
    omega
  · rw [Lib.decDigits_length]
    have := nDigits_le 20 n.toNat (by decide) (by omega)
    omega
/-- What is left of a number's digits, and those that stand already. -/
def dgt (u : Nat) (s : List UInt8) : List UInt8 := if u = 0 ∧ s ≠ [] then s else Lib.decDigits u ++ s
theorem dgt_step (u : Nat) (s : List UInt8) (h : 0 < u ∨ s = []) : dgt (u / 10) (UInt8.ofNat (48 + u % 10) :: s) = dgt u s := by
  have e1 : dgt u s = Lib.decDigits u ++ s := by
    unfold dgt
    rw [if_neg]
    rintro ⟨h1, h2⟩
    rcases h with h | h
    · omega
    · exact h2 h
  rw [e1, Lib.decDigits]
  unfold dgt
  by_cases hu : u < 10
  · have : u / 10 = 0 := by omega
    have e2 : u % 10 = u := by omega
    rw [if_pos ⟨this, by simp⟩, dif_pos hu, e2]; rfl
  · have : u / 10 ≠ 0 := by omega
    rw [if_neg (fun x => this x.1), dif_neg hu]; simp
theorem dgt_end (s : List UInt8) (h : s ≠ []) : dgt 0 s = s := by unfold dgt; rw [if_pos ⟨rfl, h⟩]
theorem dgt_start (u : Nat) : dgt u [] = Lib.decDigits u := by unfold dgt; rw [if_neg (fun x => x.2 rfl)]; simp
noncomputable def s_Digits : List DV → Prop × DV := spec1 eI fun n => (okI64 n, .str (Lib.itoa n))
theorem s_Digits_at (n : Int) : s_Digits [.int .i64 n] = (okI64 n, .str (Lib.itoa n)) := spec1_at inj_I _ n
theorem natAbs_wrap {n : Int} (h : okI64 n) (h0 : n < 0) : IntKind.u64.wrap n = n + 18446744073709551616 ∧ IntKind.u64.wrap (0 - (n + 18446744073709551616)) = (n.natAbs : Int) := by
  obtain ⟨h1, h2⟩ := h
  constructor
  · rw [IntKind.wrap_u64]; omega
  · rw [IntKind.wrap_u64]; omega
theorem digit_byte (u : Nat) : (UInt8.ofNat (IntKind.u8.wrap (IntKind.u64.wrap (48 + ((u : Int).tmod 10)))).toNat) = UInt8.ofNat (48 + u % 10) := by
  have e : ((u : Int).tmod 10) = ((u % 10 : Nat) : Int) := by rw [Int.tmod_eq_emod_of_nonneg (by omega)]; omega
  rw [e, IntKind.wrap_u64, IntKind.wrap_u8]
  congr 1
  omega
theorem dgt_len (u : Nat) (s : List UInt8) : s.length ≤ (dgt u s).length := by
  unfold dgt
  split
  · exact Nat.le_refl _
  · rw [List.length_append]; omega
theorem ok_noriaref06_Digits : OkP Tryd.prog 42 s_Digits := by
  refine OkP.mk1 (ps := []) (hs := []) trivial trivial m_noriaref06_Digits fun n h => ?_
  try dsimp only at h
  have h : okI64 n := h
  have hlen := itoa_len h
  obtain ⟨u0, hu0, hua, hit⟩ : ∃ u0 : Nat, u0 < 18446744073709551616 ∧ (if n < 0 then IntKind.u64.wrap (0 - IntKind.u64.wrap n) else IntKind.u64.wrap n) = (u0 : Int) ∧ Lib.itoa n = if n < 0 then 45 :: Lib.decDigits u0 else Lib.decDigits u0 := by
    unfold Lib.itoa
    by_cases h0 : n < 0
    · obtain ⟨e1, e2⟩ := natAbs_wrap h h0
      exact ⟨n.natAbs, by have := h.1; omega, by rw [if_pos h0, e1, e2], by rw [if_pos h0, if_pos h0]⟩
    · exact ⟨n.toNat, by have := h.2; omega, by rw [if_neg h0, IntKind.wrap_u64]; have := h.2; omega, by rw [if_neg h0, if_neg h0]⟩
  have hdl : (Lib.decDigits u0).length ≤ 21 := by
    rw [hit] at hlen
    split at hlen
    · simp only [List.length_cons] at hlen; omega
    · exact hlen
  by_cases h0 : n < 0
  · rw [if_pos h0] at hua hit
    (have hcondQ := Bool.and_self; refine Todo.of ?_); (repeat' (first | ((with_reducible refine Todo.to ?_); (repeat (first | (simp only [↓rP, rT, rU, eI, eU, eB, eS, eBs, eL, eA, buildCells, sepsD, sepB, hdl, dvalX, DOp.kind, dval, frameFrom, dBin, dInt, dStr, dBeq, dUn, dLoad, cellsAt, retV, retL, DR.val, fzT, fzVs, fzV, fz1, DV.immB, IntKind.bits, dCallP, viewVs, viewV, view1, capVL, capV, viewL, noMemV, noMem, elemsOf, dAppend, dAppz, dStore, DV.one, alive, freezeAt, fzLL, fzL, bRow, bU, cellsOf, setFrom, DV.isU, lenMax, lenCap, Nat.reduceEqDiff, Nat.reduceAdd, ↓reduceIte, reduceCtorEq, Nat.reduceSub, Int.reduceToNat, Int.reducePow, Nat.reducePow, Int.reduceLE, Int.reduceLT, Nat.reduceLeDiff, Nat.reduceLT, Int.reduceBEq, Int.reduceBNe, Int.reduceEq, Int.reduceNe, Int.reduceAdd, Int.reduceSub, Int.reduceMul, Int.reduceNeg, Int.reduceTDiv, Int.reduceTMod, Int.reduceMod, Int.reduceDiv, Nat.reduceMul, forall_const, implies_true, d_noriaref06_Digits, eEns, eIls, eImg, ePrt, ePrts, eRows, eSs, eTy, eY, sls_len, ils_len, ils_rowsT, sls_rowsT, sls_tk0, ils_tk0, s_RightTy_at, s_CellsTy_at, h0 , hcondQ]) | (simp (disch := omega) only [i64_id, u64_id, u8_id, getD_map'])))) | ((with_reducible refine And.intro ?_ ?_); · first | trivial | omega | (simp; done) | (simp; omega)) | ((first | ((with_reducible refine dwp_condI (t := ?_) ?_ (fun hcQ => ?_) (fun hcQ => ?_)); rotate_left; · rfl) | ((with_reducible refine dops_guardI (t := ?_) ?_ (fun hcQ => ?_) (fun hcQ => ?_)); rotate_left; · rfl)) <;> (have hn := hcQ; have hcondQ := hcQ) <;> (try simp only [decide_eq_true_eq, decide_eq_false_iff_not, beq_iff_eq, bne_iff_ne, ne_eq, Bool.and_eq_true, Bool.or_eq_true, Bool.not_eq_true, Bool.not_eq_false, beq_eq_false_iff_ne, bne_eq_false_iff_eq, Bool.not_eq_true', Bool.not_eq_false', Int.ofNat_lt, Int.ofNat_le, Bool.or_eq_false_iff, Bool.and_eq_false_imp, Decidable.not_not, gt_iff_lt, ge_iff_le] at hn) <;> (try (exfalso; omega)) <;> (refine Todo.of ?_)) | (((with_reducible refine dwp_condA ?_ ?_ ?_); · rfl) <;> (refine Todo.of ?_)))) <;> (try (first | (with_reducible rfl) | exact Nat.le_refl _ | exact Int.le_refl _ | assumption | omega))
    refine dwp_loop (fun x : Nat × List UInt8 => ⟨[(0, .int .i64 n), (3, .int .u64 x.1), (4, .str x.2)], []⟩) (fun x => x.1 < 18446744073709551616 ∧ dgt x.1 x.2 = Lib.decDigits u0) (fun x => 2 * x.1 + (if x.2 = [] then 1 else 0)) (u0, []) (Nat.zero_le _) (by simp only [cut_some, cut_none, List.map_cons, List.map_nil, get_cons, Nk.get_nil, Nat.reduceEqDiff, ↓reduceIte, Nat.succ_ne_self, DV.cut, DV.inB, DObj.cut, List.take_nil, List.take_zero, if_true, Nat.zero_ne_one, Nat.one_ne_zero, DV.inBL, Bool.and_true, Bool.true_and, reduceCtorEq, Nat.zero_lt_one, decide_true, decide_false, Nat.reduceLT, List.take_succ_cons, Int.natCast_add, Int.natCast_one, List.length_append, List.length_cons, List.length_nil, Nat.zero_add, hua] <;> rfl) ⟨hu0, dgt_start u0⟩ fun x hx => ?_
    obtain ⟨u, s⟩ := x
    obtain ⟨hx1, hx2⟩ := hx
    simp only at hx1 hx2 ⊢
    have hsl := dgt_len u s
    rw [hx2] at hsl
    have m10 : ((10 : Int) = 0) = False := by simp
    have eb := digit_byte u
    have eb2 : b2f [DV.int .u8 (IntKind.u8.wrap (IntKind.u64.wrap (48 + (u : Int).tmod 10)))] = UInt8.ofNat (48 + u % 10) := eb
    have eq1 : IntKind.u64.wrap ((u : Int).tdiv 10) = ((u / 10 : Nat) : Int) := by
      rw [Int.tdiv_eq_ediv_of_nonneg (by omega), IntKind.wrap_u64]; omega
    have sm : 1 + s.length ≤ 4611686018427387904 := by omega
    by_cases u1 : 0 < u
    · have u2 : (0 : Int) < (u : Int) := by omega
      (have hcondQ := Bool.and_self; refine Todo.of ?_); (repeat' (first | ((with_reducible refine Todo.to ?_); (repeat (first | (simp only [↓rP, rT, rU, eI, eU, eB, eS, eBs, eL, eA, buildCells, sepsD, sepB, hdl, dvalX, DOp.kind, dval, frameFrom, dBin, dInt, dStr, dBeq, dUn, dLoad, cellsAt, retV, retL, DR.val, fzT, fzVs, fzV, fz1, DV.immB, IntKind.bits, dCallP, viewVs, viewV, view1, capVL, capV, viewL, noMemV, noMem, elemsOf, dAppend, dAppz, dStore, DV.one, alive, freezeAt, fzLL, fzL, bRow, bU, cellsOf, setFrom, DV.isU, lenMax, lenCap, Nat.reduceEqDiff, Nat.reduceAdd, ↓reduceIte, reduceCtorEq, Nat.reduceSub, Int.reduceToNat, Int.reducePow, Nat.reducePow, Int.reduceLE, Int.reduceLT, Nat.reduceLeDiff, Nat.reduceLT, Int.reduceBEq, Int.reduceBNe, Int.reduceEq, Int.reduceNe, Int.reduceAdd, Int.reduceSub, Int.reduceMul, Int.reduceNeg, Int.reduceTDiv, Int.reduceTMod, Int.reduceMod, Int.reduceDiv, Nat.reduceMul, forall_const, implies_true, d_noriaref06_Digits, eEns, eIls, eImg, ePrt, ePrts, eRows, eSs, eTy, eY, sls_len, ils_len, ils_rowsT, sls_rowsT, sls_tk0, ils_tk0, s_RightTy_at, s_CellsTy_at, u2, eb, eq1, sm, strMax , hcondQ]) | (simp (disch := omega) only [i64_id, u64_id, u8_id, getD_map'])))) | ((with_reducible refine And.intro ?_ ?_); · first | trivial | omega | (simp; done) | (simp; omega)) | ((first | ((with_reducible refine dwp_condI (t := ?_) ?_ (fun hcQ => ?_) (fun hcQ => ?_)); rotate_left; · rfl) | ((with_reducible refine dops_guardI (t := ?_) ?_ (fun hcQ => ?_) (fun hcQ => ?_)); rotate_left; · rfl)) <;> (have hn := hcQ; have hcondQ := hcQ) <;> (try simp only [decide_eq_true_eq, decide_eq_false_iff_not, beq_iff_eq, bne_iff_ne, ne_eq, Bool.and_eq_true, Bool.or_eq_true, Bool.not_eq_true, Bool.not_eq_false, beq_eq_false_iff_ne, bne_eq_false_iff_eq, Bool.not_eq_true', Bool.not_eq_false', Int.ofNat_lt, Int.ofNat_le, Bool.or_eq_false_iff, Bool.and_eq_false_imp, Decidable.not_not, gt_iff_lt, ge_iff_le] at hn) <;> (try (exfalso; omega)) <;> (refine Todo.of ?_)) | (((with_reducible refine dwp_condA ?_ ?_ ?_); · rfl) <;> (refine Todo.of ?_)))) <;> (try (first | (with_reducible rfl) | exact Nat.le_refl _ | exact Int.le_refl _ | assumption | omega))
      all_goals first
        | omega
        | (refine ⟨(u / 10, UInt8.ofNat (48 + u % 10) :: s), ?_, ⟨by simp only; omega, by rw [dgt_step u s (.inl u1)]; exact hx2⟩, by simp only; rw [if_neg (by simp)]; omega⟩
           simp only [cut_some, cut_none, List.map_cons, List.map_nil, get_cons, Nk.get_nil, Nat.reduceEqDiff, ↓reduceIte, Nat.succ_ne_self, DV.cut, DV.inB, DObj.cut, List.take_nil, List.take_zero, if_true, Nat.zero_ne_one, Nat.one_ne_zero, DV.inBL, Bool.and_true, Bool.true_and, reduceCtorEq, Nat.zero_lt_one, decide_true, decide_false, Nat.reduceLT, List.take_succ_cons, eb2, List.singleton_append])
    have u0e : u = 0 := by omega
    subst u0e
    by_cases s1 : s = []
    · subst s1
      (have hcondQ := Bool.and_self; refine Todo.of ?_); (repeat' (first | ((with_reducible refine Todo.to ?_); (repeat (first | (simp only [↓rP, rT, rU, eI, eU, eB, eS, eBs, eL, eA, buildCells, sepsD, sepB, hdl, dvalX, DOp.kind, dval, frameFrom, dBin, dInt, dStr, dBeq, dUn, dLoad, cellsAt, retV, retL, DR.val, fzT, fzVs, fzV, fz1, DV.immB, IntKind.bits, dCallP, viewVs, viewV, view1, capVL, capV, viewL, noMemV, noMem, elemsOf, dAppend, dAppz, dStore, DV.one, alive, freezeAt, fzLL, fzL, bRow, bU, cellsOf, setFrom, DV.isU, lenMax, lenCap, Nat.reduceEqDiff, Nat.reduceAdd, ↓reduceIte, reduceCtorEq, Nat.reduceSub, Int.reduceToNat, Int.reducePow, Nat.reducePow, Int.reduceLE, Int.reduceLT, Nat.reduceLeDiff, Nat.reduceLT, Int.reduceBEq, Int.reduceBNe, Int.reduceEq, Int.reduceNe, Int.reduceAdd, Int.reduceSub, Int.reduceMul, Int.reduceNeg, Int.reduceTDiv, Int.reduceTMod, Int.reduceMod, Int.reduceDiv, Nat.reduceMul, forall_const, implies_true, d_noriaref06_Digits, eEns, eIls, eImg, ePrt, ePrts, eRows, eSs, eTy, eY, sls_len, ils_len, ils_rowsT, sls_rowsT, sls_tk0, ils_tk0, s_RightTy_at, s_CellsTy_at, eb, eq1, strMax , hcondQ]) | (simp (disch := omega) only [i64_id, u64_id, u8_id, getD_map'])))) | ((with_reducible refine And.intro ?_ ?_); · first | trivial | omega | (simp; done) | (simp; omega)) | ((first | ((with_reducible refine dwp_condI (t := ?_) ?_ (fun hcQ => ?_) (fun hcQ => ?_)); rotate_left; · rfl) | ((with_reducible refine dops_guardI (t := ?_) ?_ (fun hcQ => ?_) (fun hcQ => ?_)); rotate_left; · rfl)) <;> (have hn := hcQ; have hcondQ := hcQ) <;> (try simp only [decide_eq_true_eq, decide_eq_false_iff_not, beq_iff_eq, bne_iff_ne, ne_eq, Bool.and_eq_true, Bool.or_eq_true, Bool.not_eq_true, Bool.not_eq_false, beq_eq_false_iff_ne, bne_eq_false_iff_eq, Bool.not_eq_true', Bool.not_eq_false', Int.ofNat_lt, Int.ofNat_le, Bool.or_eq_false_iff, Bool.and_eq_false_imp, Decidable.not_not, gt_iff_lt, ge_iff_le] at hn) <;> (try (exfalso; omega)) <;> (refine Todo.of ?_)) | (((with_reducible refine dwp_condA ?_ ?_ ?_); · rfl) <;> (refine Todo.of ?_)))) <;> (try (first | (with_reducible rfl) | exact Nat.le_refl _ | exact Int.le_refl _ | assumption | omega))
      all_goals first
        | omega
        | (refine ⟨(0, [48]), ?_, ⟨by simp, (dgt_step 0 [] (.inr rfl)).trans hx2⟩, by simp⟩
           simp only [cut_some, cut_none, List.map_cons, List.map_nil, get_cons, Nk.get_nil, Nat.reduceEqDiff, ↓reduceIte, Nat.succ_ne_self, DV.cut, DV.inB, DObj.cut, List.take_nil, List.take_zero, if_true, Nat.zero_ne_one, Nat.one_ne_zero, DV.inBL, Bool.and_true, Bool.true_and, reduceCtorEq, Nat.zero_lt_one, decide_true, decide_false, Nat.reduceLT, List.take_succ_cons]
           rfl)
    · rw [dgt_end s s1] at hx2
      have s2 : (s == []) = false := by simpa using s1
      rw [hit, ← hx2]
      (have hcondQ := Bool.and_self; refine Todo.of ?_); (repeat' (first | ((with_reducible refine Todo.to ?_); (repeat (first | (simp only [↓rP, rT, rU, eI, eU, eB, eS, eBs, eL, eA, buildCells, sepsD, sepB, hdl, dvalX, DOp.kind, dval, frameFrom, dBin, dInt, dStr, dBeq, dUn, dLoad, cellsAt, retV, retL, DR.val, fzT, fzVs, fzV, fz1, DV.immB, IntKind.bits, dCallP, viewVs, viewV, view1, capVL, capV, viewL, noMemV, noMem, elemsOf, dAppend, dAppz, dStore, DV.one, alive, freezeAt, fzLL, fzL, bRow, bU, cellsOf, setFrom, DV.isU, lenMax, lenCap, Nat.reduceEqDiff, Nat.reduceAdd, ↓reduceIte, reduceCtorEq, Nat.reduceSub, Int.reduceToNat, Int.reducePow, Nat.reducePow, Int.reduceLE, Int.reduceLT, Nat.reduceLeDiff, Nat.reduceLT, Int.reduceBEq, Int.reduceBNe, Int.reduceEq, Int.reduceNe, Int.reduceAdd, Int.reduceSub, Int.reduceMul, Int.reduceNeg, Int.reduceTDiv, Int.reduceTMod, Int.reduceMod, Int.reduceDiv, Nat.reduceMul, forall_const, implies_true, d_noriaref06_Digits, eEns, eIls, eImg, ePrt, ePrts, eRows, eSs, eTy, eY, sls_len, ils_len, ils_rowsT, sls_rowsT, sls_tk0, ils_tk0, s_RightTy_at, s_CellsTy_at, s2, h0, strMax, sm , hcondQ]) | (simp (disch := omega) only [i64_id, u64_id, u8_id, getD_map'])))) | ((with_reducible refine And.intro ?_ ?_); · first | trivial | omega | (simp; done) | (simp; omega)) | ((first | ((with_reducible refine dwp_condI (t := ?_) ?_ (fun hcQ => ?_) (fun hcQ => ?_)); rotate_left; · rfl) | ((with_reducible refine dops_guardI (t := ?_) ?_ (fun hcQ => ?_) (fun hcQ => ?_)); rotate_left; · rfl)) <;> (have hn := hcQ; have hcondQ := hcQ) <;> (try simp only [decide_eq_true_eq, decide_eq_false_iff_not, beq_iff_eq, bne_iff_ne, ne_eq, Bool.and_eq_true, Bool.or_eq_true, Bool.not_eq_true, Bool.not_eq_false, beq_eq_false_iff_ne, bne_eq_false_iff_eq, Bool.not_eq_true', Bool.not_eq_false', Int.ofNat_lt, Int.ofNat_le, Bool.or_eq_false_iff, Bool.and_eq_false_imp, Decidable.not_not, gt_iff_lt, ge_iff_le] at hn) <;> (try (exfalso; omega)) <;> (refine Todo.of ?_)) | (((with_reducible refine dwp_condA ?_ ?_ ?_); · rfl) <;> (refine Todo.of ?_)))) <;> (try (first | (with_reducible rfl) | exact Nat.le_refl _ | exact Int.le_refl _ | assumption | omega))
  · rw [if_neg h0] at hua hit
    (have hcondQ := Bool.and_self; refine Todo.of ?_); (repeat' (first | ((with_reducible refine Todo.to ?_); (repeat (first | (simp only [↓rP, rT, rU, eI, eU, eB, eS, eBs, eL, eA, buildCells, sepsD, sepB, hdl, dvalX, DOp.kind, dval, frameFrom, dBin, dInt, dStr, dBeq, dUn, dLoad, cellsAt, retV, retL, DR.val, fzT, fzVs, fzV, fz1, DV.immB, IntKind.bits, dCallP, viewVs, viewV, view1, capVL, capV, viewL, noMemV, noMem, elemsOf, dAppend, dAppz, dStore, DV.one, alive, freezeAt, fzLL, fzL, bRow, bU, cellsOf, setFrom, DV.isU, lenMax, lenCap, Nat.reduceEqDiff, Nat.reduceAdd, ↓reduceIte, reduceCtorEq, Nat.reduceSub, Int.reduceToNat, Int.reducePow, Nat.reducePow, Int.reduceLE, Int.reduceLT, Nat.reduceLeDiff, Nat.reduceLT, Int.reduceBEq, Int.reduceBNe, Int.reduceEq, Int.reduceNe, Int.reduceAdd, Int.reduceSub, Int.reduceMul, Int.reduceNeg, Int.reduceTDiv, Int.reduceTMod, Int.reduceMod, Int.reduceDiv, Nat.reduceMul, forall_const, implies_true, d_noriaref06_Digits, eEns, eIls, eImg, ePrt, ePrts, eRows, eSs, eTy, eY, sls_len, ils_len, ils_rowsT, sls_rowsT, sls_tk0, ils_tk0, s_RightTy_at, s_CellsTy_at, h0 , hcondQ]) | (simp (disch := omega) only [i64_id, u64_id, u8_id, getD_map'])))) | ((with_reducible refine And.intro ?_ ?_); · first | trivial | omega | (simp; done) | (simp; omega)) | ((first | ((with_reducible refine dwp_condI (t := ?_) ?_ (fun hcQ => ?_) (fun hcQ => ?_)); rotate_left; · rfl) | ((with_reducible refine dops_guardI (t := ?_) ?_ (fun hcQ => ?_) (fun hcQ => ?_)); rotate_left; · rfl)) <;> (have hn := hcQ; have hcondQ := hcQ) <;> (try simp only [decide_eq_true_eq, decide_eq_false_iff_not, beq_iff_eq, bne_iff_ne, ne_eq, Bool.and_eq_true, Bool.or_eq_true, Bool.not_eq_true, Bool.not_eq_false, beq_eq_false_iff_ne, bne_eq_false_iff_eq, Bool.not_eq_true', Bool.not_eq_false', Int.ofNat_lt, Int.ofNat_le, Bool.or_eq_false_iff, Bool.and_eq_false_imp, Decidable.not_not, gt_iff_lt, ge_iff_le] at hn) <;> (try (exfalso; omega)) <;> (refine Todo.of ?_)) | (((with_reducible refine dwp_condA ?_ ?_ ?_); · rfl) <;> (refine Todo.of ?_)))) <;> (try (first | (with_reducible rfl) | exact Nat.le_refl _ | exact Int.le_refl _ | assumption | omega))
    refine dwp_loop (fun x : Nat × List UInt8 => ⟨[(0, .int .i64 n), (3, .int .u64 x.1), (4, .str x.2)], []⟩) (fun x => x.1 < 18446744073709551616 ∧ dgt x.1 x.2 = Lib.decDigits u0) (fun x => 2 * x.1 + (if x.2 = [] then 1 else 0)) (u0, []) (Nat.zero_le _) (by simp only [cut_some, cut_none, List.map_cons, List.map_nil, get_cons, Nk.get_nil, Nat.reduceEqDiff, ↓reduceIte, Nat.succ_ne_self, DV.cut, DV.inB, DObj.cut, List.take_nil, List.take_zero, if_true, Nat.zero_ne_one, Nat.one_ne_zero, DV.inBL, Bool.and_true, Bool.true_and, reduceCtorEq, Nat.zero_lt_one, decide_true, decide_false, Nat.reduceLT, List.take_succ_cons, Int.natCast_add, Int.natCast_one, List.length_append, List.length_cons, List.length_nil, Nat.zero_add, hua] <;> rfl) ⟨hu0, dgt_start u0⟩ fun x hx => ?_
    obtain ⟨u, s⟩ := x
    obtain ⟨hx1, hx2⟩ := hx
    simp only at hx1 hx2 ⊢
    have hsl := dgt_len u s
    rw [hx2] at hsl
    have m10 : ((10 : Int) = 0) = False := by simp
    have eb := digit_byte u
    have eb2 : b2f [DV.int .u8 (IntKind.u8.wrap (IntKind.u64.wrap (48 + (u : Int).tmod 10)))] = UInt8.ofNat (48 + u % 10) := eb
    have eq1 : IntKind.u64.wrap ((u : Int).tdiv 10) = ((u / 10 : Nat) : Int) := by
      rw [Int.tdiv_eq_ediv_of_nonneg (by omega), IntKind.wrap_u64]; omega
    have sm : 1 + s.length ≤ 4611686018427387904 := by omega
    by_cases u1 : 0 < u
    · have u2 : (0 : Int) < (u : Int) := by omega
      (have hcondQ := Bool.and_self; refine Todo.of ?_); (repeat' (first | ((with_reducible refine Todo.to ?_); (repeat (first | (simp only [↓rP, rT, rU, eI, eU, eB, eS, eBs, eL, eA, buildCells, sepsD, sepB, hdl, dvalX, DOp.kind, dval, frameFrom, dBin, dInt, dStr, dBeq, dUn, dLoad, cellsAt, retV, retL, DR.val, fzT, fzVs, fzV, fz1, DV.immB, IntKind.bits, dCallP, viewVs, viewV, view1, capVL, capV, viewL, noMemV, noMem, elemsOf, dAppend, dAppz, dStore, DV.one, alive, freezeAt, fzLL, fzL, bRow, bU, cellsOf, setFrom, DV.isU, lenMax, lenCap, Nat.reduceEqDiff, Nat.reduceAdd, ↓reduceIte, reduceCtorEq, Nat.reduceSub, Int.reduceToNat, Int.reducePow, Nat.reducePow, Int.reduceLE, Int.reduceLT, Nat.reduceLeDiff, Nat.reduceLT, Int.reduceBEq, Int.reduceBNe, Int.reduceEq, Int.reduceNe, Int.reduceAdd, Int.reduceSub, Int.reduceMul, Int.reduceNeg, Int.reduceTDiv, Int.reduceTMod, Int.reduceMod, Int.reduceDiv, Nat.reduceMul, forall_const, implies_true, d_noriaref06_Digits, eEns, eIls, eImg, ePrt, ePrts, eRows, eSs, eTy, eY, sls_len, ils_len, ils_rowsT, sls_rowsT, sls_tk0, ils_tk0, s_RightTy_at, s_CellsTy_at, u2, eb, eq1, sm, strMax , hcondQ]) | (simp (disch := omega) only [i64_id, u64_id, u8_id, getD_map'])))) | ((with_reducible refine And.intro ?_ ?_); · first | trivial | omega | (simp; done) | (simp; omega)) | ((first | ((with_reducible refine dwp_condI (t := ?_) ?_ (fun hcQ => ?_) (fun hcQ => ?_)); rotate_left; · rfl) | ((with_reducible refine dops_guardI (t := ?_) ?_ (fun hcQ => ?_) (fun hcQ => ?_)); rotate_left; · rfl)) <;> (have hn := hcQ; have hcondQ := hcQ) <;> (try simp only [decide_eq_true_eq, decide_eq_false_iff_not, beq_iff_eq, bne_iff_ne, ne_eq, Bool.and_eq_true, Bool.or_eq_true, Bool.not_eq_true, Bool.not_eq_false, beq_eq_false_iff_ne, bne_eq_false_iff_eq, Bool.not_eq_true', Bool.not_eq_false', Int.ofNat_lt, Int.ofNat_le, Bool.or_eq_false_iff, Bool.and_eq_false_imp, Decidable.not_not, gt_iff_lt, ge_iff_le] at hn) <;> (try (exfalso; omega)) <;> (refine Todo.of ?_)) | (((with_reducible refine dwp_condA ?_ ?_ ?_); · rfl) <;> (refine Todo.of ?_)))) <;> (try (first | (with_reducible rfl) | exact Nat.le_refl _ | exact Int.le_refl _ | assumption | omega))
      all_goals first
        | omega
        | (refine ⟨(u / 10, UInt8.ofNat (48 + u % 10) :: s), ?_, ⟨by simp only; omega, by rw [dgt_step u s (.inl u1)]; exact hx2⟩, by simp only; rw [if_neg (by simp)]; omega⟩
           simp only [cut_some, cut_none, List.map_cons, List.map_nil, get_cons, Nk.get_nil, Nat.reduceEqDiff, ↓reduceIte, Nat.succ_ne_self, DV.cut, DV.inB, DObj.cut, List.take_nil, List.take_zero, if_true, Nat.zero_ne_one, Nat.one_ne_zero, DV.inBL, Bool.and_true, Bool.true_and, reduceCtorEq, Nat.zero_lt_one, decide_true, decide_false, Nat.reduceLT, List.take_succ_cons, eb2, List.singleton_append])
    have u0e : u = 0 := by omega
    subst u0e
    by_cases s1 : s = []
    · subst s1
      (have hcondQ := Bool.and_self; refine Todo.of ?_); (repeat' (first | ((with_reducible refine Todo.to ?_); (repeat (first | (simp only [↓rP, rT, rU, eI, eU, eB, eS, eBs, eL, eA, buildCells, sepsD, sepB, hdl, dvalX, DOp.kind, dval, frameFrom, dBin, dInt, dStr, dBeq, dUn, dLoad, cellsAt, retV, retL, DR.val, fzT, fzVs, fzV, fz1, DV.immB, IntKind.bits, dCallP, viewVs, viewV, view1, capVL, capV, viewL, noMemV, noMem, elemsOf, dAppend, dAppz, dStore, DV.one, alive, freezeAt, fzLL, fzL, bRow, bU, cellsOf, setFrom, DV.isU, lenMax, lenCap, Nat.reduceEqDiff, Nat.reduceAdd, ↓reduceIte, reduceCtorEq, Nat.reduceSub, Int.reduceToNat, Int.reducePow, Nat.reducePow, Int.reduceLE, Int.reduceLT, Nat.reduceLeDiff, Nat.reduceLT, Int.reduceBEq, Int.reduceBNe, Int.reduceEq, Int.reduceNe, Int.reduceAdd, Int.reduceSub, Int.reduceMul, Int.reduceNeg, Int.reduceTDiv, Int.reduceTMod, Int.reduceMod, Int.reduceDiv, Nat.reduceMul, forall_const, implies_true, d_noriaref06_Digits, eEns, eIls, eImg, ePrt, ePrts, eRows, eSs, eTy, eY, sls_len, ils_len, ils_rowsT, sls_rowsT, sls_tk0, ils_tk0, s_RightTy_at, s_CellsTy_at, eb, eq1, strMax , hcondQ]) | (simp (disch := omega) only [i64_id, u64_id, u8_id, getD_map'])))) | ((with_reducible refine And.intro ?_ ?_); · first | trivial | omega | (simp; done) | (simp; omega)) | ((first | ((with_reducible refine dwp_condI (t := ?_) ?_ (fun hcQ => ?_) (fun hcQ => ?_)); rotate_left; · rfl) | ((with_reducible refine dops_guardI (t := ?_) ?_ (fun hcQ => ?_) (fun hcQ => ?_)); rotate_left; · rfl)) <;> (have hn := hcQ; have hcondQ := hcQ) <;> (try simp only [decide_eq_true_eq, decide_eq_false_iff_not, beq_iff_eq, bne_iff_ne, ne_eq, Bool.and_eq_true, Bool.or_eq_true, Bool.not_eq_true, Bool.not_eq_false, beq_eq_false_iff_ne, bne_eq_false_iff_eq, Bool.not_eq_true', Bool.not_eq_false', Int.ofNat_lt, Int.ofNat_le, Bool.or_eq_false_iff, Bool.and_eq_false_imp, Decidable.not_not, gt_iff_lt, ge_iff_le] at hn) <;> (try (exfalso; omega)) <;> (refine Todo.of ?_)) | (((with_reducible refine dwp_condA ?_ ?_ ?_); · rfl) <;> (refine Todo.of ?_)))) <;> (try (first | (with_reducible rfl) | exact Nat.le_refl _ | exact Int.le_refl _ | assumption | omega))
      all_goals first
        | omega
        | (refine ⟨(0, [48]), ?_, ⟨by simp, (dgt_step 0 [] (.inr rfl)).trans hx2⟩, by simp⟩
           simp only [cut_some, cut_none, List.map_cons, List.map_nil, get_cons, Nk.get_nil, Nat.reduceEqDiff, ↓reduceIte, Nat.succ_ne_self, DV.cut, DV.inB, DObj.cut, List.take_nil, List.take_zero, if_true, Nat.zero_ne_one, Nat.one_ne_zero, DV.inBL, Bool.and_true, Bool.true_and, reduceCtorEq, Nat.zero_lt_one, decide_true, decide_false, Nat.reduceLT, List.take_succ_cons]
           rfl)
    · rw [dgt_end s s1] at hx2
      have s2 : (s == []) = false := by simpa using s1
      rw [hit, ← hx2]
      (have hcondQ := Bool.and_self; refine Todo.of ?_); (repeat' (first | ((with_reducible refine Todo.to ?_); (repeat (first | (simp only [↓rP, rT, rU, eI, eU, eB, eS, eBs, eL, eA, buildCells, sepsD, sepB, hdl, dvalX, DOp.kind, dval, frameFrom, dBin, dInt, dStr, dBeq, dUn, dLoad, cellsAt, retV, retL, DR.val, fzT, fzVs, fzV, fz1, DV.immB, IntKind.bits, dCallP, viewVs, viewV, view1, capVL, capV, viewL, noMemV, noMem, elemsOf, dAppend, dAppz, dStore, DV.one, alive, freezeAt, fzLL, fzL, bRow, bU, cellsOf, setFrom, DV.isU, lenMax, lenCap, Nat.reduceEqDiff, Nat.reduceAdd, ↓reduceIte, reduceCtorEq, Nat.reduceSub, Int.reduceToNat, Int.reducePow, Nat.reducePow, Int.reduceLE, Int.reduceLT, Nat.reduceLeDiff, Nat.reduceLT, Int.reduceBEq, Int.reduceBNe, Int.reduceEq, Int.reduceNe, Int.reduceAdd, Int.reduceSub, Int.reduceMul, Int.reduceNeg, Int.reduceTDiv, Int.reduceTMod, Int.reduceMod, Int.reduceDiv, Nat.reduceMul, forall_const, implies_true, d_noriaref06_Digits, eEns, eIls, eImg, ePrt, ePrts, eRows, eSs, eTy, eY, sls_len, ils_len, ils_rowsT, sls_rowsT, sls_tk0, ils_tk0, s_RightTy_at, s_CellsTy_at, s2, h0, strMax, sm , hcondQ]) | (simp (disch := omega) only [i64_id, u64_id, u8_id, getD_map'])))) | ((with_reducible refine And.intro ?_ ?_); · first | trivial | omega | (simp; done) | (simp; omega)) | ((first | ((with_reducible refine dwp_condI (t := ?_) ?_ (fun hcQ => ?_) (fun hcQ => ?_)); rotate_left; · rfl) | ((with_reducible refine dops_guardI (t := ?_) ?_ (fun hcQ => ?_) (fun hcQ => ?_)); rotate_left; · rfl)) <;> (have hn := hcQ; have hcondQ := hcQ) <;> (try simp only [decide_eq_true_eq, decide_eq_false_iff_not, beq_iff_eq, bne_iff_ne, ne_eq, Bool.and_eq_true, Bool.or_eq_true, Bool.not_eq_true, Bool.not_eq_false, beq_eq_false_iff_ne, bne_eq_false_iff_eq, Bool.not_eq_true', Bool.not_eq_false', Int.ofNat_lt, Int.ofNat_le, Bool.or_eq_false_iff, Bool.and_eq_false_imp, Decidable.not_not, gt_iff_lt, ge_iff_le] at hn) <;> (try (exfalso; omega)) <;> (refine Todo.of ?_)) | (((with_reducible refine dwp_condA ?_ ?_ ?_); · rfl) <;> (refine Todo.of ?_)))) <;> (try (first | (with_reducible rfl) | exact Nat.le_refl _ | exact Int.le_refl _ | assumption | omega))
end Go.Proofs.YtaoabkpfidbogaaDoor

/- Values' texts. -/
set_option linter.all false
set_option maxRecDepth 20000
namespace Go.Proofs.YtaoabkpfidbogaaDoor
open Go.Nk

def tT : List UInt8 := [116, 114, 117, 101]
def tF : List UInt8 := [102, 97, 108, 115, 101]
def boolT (b : Bool) : List UInt8 := if b then tT else tF
noncomputable def s_FmtB : List DV → Prop × DV := spec1 eB fun b => (True, .str (boolT b))
theorem s_FmtB_at (b : Bool) : s_FmtB [.bool b] = (True, .str (boolT b)) := spec1_at inj_B _ b
theorem ok_internal_strconv_FormatBool : OkP Tryd.prog 46 s_FmtB := by
  refine OkP.mk1 (ps := []) (hs := []) trivial trivial m_internal_strconv_FormatBool fun b _ => ?_
  cases b
  · (have hcondQ := Bool.and_self; refine Todo.of ?_); (repeat' (first | ((with_reducible refine Todo.to ?_); (repeat (first | (simp only [↓rP, rT, rU, eI, eU, eB, eS, eBs, eL, eA, buildCells, sepsD, sepB, hdl, dvalX, DOp.kind, dval, frameFrom, dBin, dInt, dStr, dBeq, dUn, dLoad, cellsAt, retV, retL, DR.val, fzT, fzVs, fzV, fz1, DV.immB, IntKind.bits, dCallP, viewVs, viewV, view1, capVL, capV, viewL, noMemV, noMem, elemsOf, dAppend, dAppz, dStore, DV.one, alive, freezeAt, fzLL, fzL, bRow, bU, cellsOf, setFrom, DV.isU, lenMax, lenCap, Nat.reduceEqDiff, Nat.reduceAdd, ↓reduceIte, reduceCtorEq, Nat.reduceSub, Int.reduceToNat, Int.reducePow, Nat.reducePow, Int.reduceLE, Int.reduceLT, Nat.reduceLeDiff, Nat.reduceLT, Int.reduceBEq, Int.reduceBNe, Int.reduceEq, Int.reduceNe, Int.reduceAdd, Int.reduceSub, Int.reduceMul, Int.reduceNeg, Int.reduceTDiv, Int.reduceTMod, Int.reduceMod, Int.reduceDiv, Nat.reduceMul, forall_const, implies_true, d_internal_strconv_FormatBool, eEns, eIls, eImg, ePrt, ePrts, eRows, eSs, eTy, eY, sls_len, ils_len, ils_rowsT, sls_rowsT, sls_tk0, ils_tk0, s_RightTy_at, s_CellsTy_at, boolT, tT, tF , hcondQ]) | (simp (disch := omega) only [i64_id, u64_id, u8_id, getD_map'])))) | ((with_reducible refine And.intro ?_ ?_); · first | trivial | omega | (simp; done) | (simp; omega)) | ((first | ((with_reducible refine dwp_condI (t := ?_) ?_ (fun hcQ => ?_) (fun hcQ => ?_)); rotate_left; · rfl) | ((with_reducible refine dops_guardI (t := ?_) ?_ (fun hcQ => ?_) (fun hcQ => ?_)); rotate_left; · rfl)) <;> (have hn := hcQ; have hcondQ := hcQ) <;> (try simp only [decide_eq_true_eq, decide_eq_false_iff_not, beq_iff_eq, bne_iff_ne, ne_eq, Bool.and_eq_true, Bool.or_eq_true, Bool.not_eq_true, Bool.not_eq_false, beq_eq_false_iff_ne, bne_eq_false_iff_eq, Bool.not_eq_true', Bool.not_eq_false', Int.ofNat_lt, Int.ofNat_le, Bool.or_eq_false_iff, Bool.and_eq_false_imp, Decidable.not_not, gt_iff_lt, ge_iff_le] at hn) <;> (try (exfalso; omega)) <;> (refine Todo.of ?_)) | (((with_reducible refine dwp_condA ?_ ?_ ?_); · rfl) <;> (refine Todo.of ?_)))) <;> (try (first | (with_reducible rfl) | exact Nat.le_refl _ | exact Int.le_refl _ | assumption | omega))
  · (have hcondQ := Bool.and_self; refine Todo.of ?_); (repeat' (first | ((with_reducible refine Todo.to ?_); (repeat (first | (simp only [↓rP, rT, rU, eI, eU, eB, eS, eBs, eL, eA, buildCells, sepsD, sepB, hdl, dvalX, DOp.kind, dval, frameFrom, dBin, dInt, dStr, dBeq, dUn, dLoad, cellsAt, retV, retL, DR.val, fzT, fzVs, fzV, fz1, DV.immB, IntKind.bits, dCallP, viewVs, viewV, view1, capVL, capV, viewL, noMemV, noMem, elemsOf, dAppend, dAppz, dStore, DV.one, alive, freezeAt, fzLL, fzL, bRow, bU, cellsOf, setFrom, DV.isU, lenMax, lenCap, Nat.reduceEqDiff, Nat.reduceAdd, ↓reduceIte, reduceCtorEq, Nat.reduceSub, Int.reduceToNat, Int.reducePow, Nat.reducePow, Int.reduceLE, Int.reduceLT, Nat.reduceLeDiff, Nat.reduceLT, Int.reduceBEq, Int.reduceBNe, Int.reduceEq, Int.reduceNe, Int.reduceAdd, Int.reduceSub, Int.reduceMul, Int.reduceNeg, Int.reduceTDiv, Int.reduceTMod, Int.reduceMod, Int.reduceDiv, Nat.reduceMul, forall_const, implies_true, d_internal_strconv_FormatBool, eEns, eIls, eImg, ePrt, ePrts, eRows, eSs, eTy, eY, sls_len, ils_len, ils_rowsT, sls_rowsT, sls_tk0, ils_tk0, s_RightTy_at, s_CellsTy_at, boolT, tT, tF , hcondQ]) | (simp (disch := omega) only [i64_id, u64_id, u8_id, getD_map'])))) | ((with_reducible refine And.intro ?_ ?_); · first | trivial | omega | (simp; done) | (simp; omega)) | ((first | ((with_reducible refine dwp_condI (t := ?_) ?_ (fun hcQ => ?_) (fun hcQ => ?_)); rotate_left; · rfl) | ((with_reducible refine dops_guardI (t := ?_) ?_ (fun hcQ => ?_) (fun hcQ => ?_)); rotate_left; · rfl)) <;> (have hn := hcQ; have hcondQ := hcQ) <;> (try simp only [decide_eq_true_eq, decide_eq_false_iff_not, beq_iff_eq, bne_iff_ne, ne_eq, Bool.and_eq_true, Bool.or_eq_true, Bool.not_eq_true, Bool.not_eq_false, beq_eq_false_iff_ne, bne_eq_false_iff_eq, Bool.not_eq_true', Bool.not_eq_false', Int.ofNat_lt, Int.ofNat_le, Bool.or_eq_false_iff, Bool.and_eq_false_imp, Decidable.not_not, gt_iff_lt, ge_iff_le] at hn) <;> (try (exfalso; omega)) <;> (refine Todo.of ?_)) | (((with_reducible refine dwp_condA ?_ ?_ ?_); · rfl) <;> (refine Todo.of ?_)))) <;> (try (first | (with_reducible rfl) | exact Nat.le_refl _ | exact Int.le_refl _ | assumption | omega))
theorem ok_strconv_FormatBool : OkP Tryd.prog 35 s_FmtB := by
  refine OkP.mk1 (ps := [(46, s_FmtB)]) (hs := []) ⟨ok_internal_strconv_FormatBool, trivial⟩ trivial m_strconv_FormatBool fun b _ => ?_
  (have hcondQ := Bool.and_self; refine Todo.of ?_); (repeat' (first | ((with_reducible refine Todo.to ?_); (repeat (first | (simp only [↓rP, rT, rU, eI, eU, eB, eS, eBs, eL, eA, buildCells, sepsD, sepB, hdl, dvalX, DOp.kind, dval, frameFrom, dBin, dInt, dStr, dBeq, dUn, dLoad, cellsAt, retV, retL, DR.val, fzT, fzVs, fzV, fz1, DV.immB, IntKind.bits, dCallP, viewVs, viewV, view1, capVL, capV, viewL, noMemV, noMem, elemsOf, dAppend, dAppz, dStore, DV.one, alive, freezeAt, fzLL, fzL, bRow, bU, cellsOf, setFrom, DV.isU, lenMax, lenCap, Nat.reduceEqDiff, Nat.reduceAdd, ↓reduceIte, reduceCtorEq, Nat.reduceSub, Int.reduceToNat, Int.reducePow, Nat.reducePow, Int.reduceLE, Int.reduceLT, Nat.reduceLeDiff, Nat.reduceLT, Int.reduceBEq, Int.reduceBNe, Int.reduceEq, Int.reduceNe, Int.reduceAdd, Int.reduceSub, Int.reduceMul, Int.reduceNeg, Int.reduceTDiv, Int.reduceTMod, Int.reduceMod, Int.reduceDiv, Nat.reduceMul, forall_const, implies_true, d_strconv_FormatBool, s_FmtB_at, eEns, eIls, eImg, ePrt, ePrts, eRows, eSs, eTy, eY, sls_len, ils_len, ils_rowsT, sls_rowsT, sls_tk0, ils_tk0, s_RightTy_at, s_CellsTy_at , hcondQ]) | (simp (disch := omega) only [i64_id, u64_id, u8_id, getD_map'])))) | ((with_reducible refine And.intro ?_ ?_); · first | trivial | omega | (simp; done) | (simp; omega)) | ((first | ((with_reducible refine dwp_condI (t := ?_) ?_ (fun hcQ => ?_) (fun hcQ => ?_)); rotate_left; · rfl) | ((with_reducible refine dops_guardI (t := ?_) ?_ (fun hcQ => ?_) (fun hcQ => ?_)); rotate_left; · rfl)) <;> (have hn := hcQ; have hcondQ := hcQ) <;> (try simp only [decide_eq_true_eq, decide_eq_false_iff_not, beq_iff_eq, bne_iff_ne, ne_eq, Bool.and_eq_true, Bool.or_eq_true, Bool.not_eq_true, Bool.not_eq_false, beq_eq_false_iff_ne, bne_eq_false_iff_eq, Bool.not_eq_true', Bool.not_eq_false', Int.ofNat_lt, Int.ofNat_le, Bool.or_eq_false_iff, Bool.and_eq_false_imp, Decidable.not_not, gt_iff_lt, ge_iff_le] at hn) <;> (try (exfalso; omega)) <;> (refine Todo.of ?_)) | (((with_reducible refine dwp_condA ?_ ?_ ?_); · rfl) <;> (refine Todo.of ?_)))) <;> (try (first | (with_reducible rfl) | exact Nat.le_refl _ | exact Int.le_refl _ | assumption | omega))
def ctAt (l : List En) (t : Ty) : List (List UInt8) := (l.getD t.e.toNat default).ct
def cellT (l : List En) (t : Ty) (n : Int) : List UInt8 := if t.k = 2 then boolT (n != 0) else if t.k = 3 then (ctAt l t).getD n.toNat [] else Lib.itoa n
noncomputable def s_cell1 : List DV → Prop × DV := spec1 eI fun n => (True, .str (boolT (n != 0)))
theorem s_cell1_at (n : Int) : s_cell1 [.int .i64 n] = (True, .str (boolT (n != 0))) := spec1_at inj_I _ n
theorem ok_val_cells_1 : OkP Tryd.prog 34 s_cell1 := by
  refine OkP.mk1 (ps := [(35, s_FmtB)]) (hs := []) ⟨ok_strconv_FormatBool, trivial⟩ trivial m_val_cells_1 fun n _ => ?_
  (have hcondQ := Bool.and_self; refine Todo.of ?_); (repeat' (first | ((with_reducible refine Todo.to ?_); (repeat (first | (simp only [↓rP, rT, rU, eI, eU, eB, eS, eBs, eL, eA, buildCells, sepsD, sepB, hdl, dvalX, DOp.kind, dval, frameFrom, dBin, dInt, dStr, dBeq, dUn, dLoad, cellsAt, retV, retL, DR.val, fzT, fzVs, fzV, fz1, DV.immB, IntKind.bits, dCallP, viewVs, viewV, view1, capVL, capV, viewL, noMemV, noMem, elemsOf, dAppend, dAppz, dStore, DV.one, alive, freezeAt, fzLL, fzL, bRow, bU, cellsOf, setFrom, DV.isU, lenMax, lenCap, Nat.reduceEqDiff, Nat.reduceAdd, ↓reduceIte, reduceCtorEq, Nat.reduceSub, Int.reduceToNat, Int.reducePow, Nat.reducePow, Int.reduceLE, Int.reduceLT, Nat.reduceLeDiff, Nat.reduceLT, Int.reduceBEq, Int.reduceBNe, Int.reduceEq, Int.reduceNe, Int.reduceAdd, Int.reduceSub, Int.reduceMul, Int.reduceNeg, Int.reduceTDiv, Int.reduceTMod, Int.reduceMod, Int.reduceDiv, Nat.reduceMul, forall_const, implies_true, d_val_cells_1, s_FmtB_at, eEns, eIls, eImg, ePrt, ePrts, eREns, eRTy, eRows, eSs, eTy, eY, sls_len, ils_len, ils_rowsT, sls_rowsT, sls_tk0, ils_tk0, s_RightTy_at, s_CellsTy_at , hcondQ]) | (simp (disch := omega) only [i64_id, u64_id, u8_id, getD_map'])))) | ((with_reducible refine And.intro ?_ ?_); · first | trivial | omega | (simp; done) | (simp; omega)) | ((first | ((with_reducible refine dwp_condI (t := ?_) ?_ (fun hcQ => ?_) (fun hcQ => ?_)); rotate_left; · rfl) | ((with_reducible refine dops_guardI (t := ?_) ?_ (fun hcQ => ?_) (fun hcQ => ?_)); rotate_left; · rfl)) <;> (have hn := hcQ; have hcondQ := hcQ) <;> (try simp only [decide_eq_true_eq, decide_eq_false_iff_not, beq_iff_eq, bne_iff_ne, ne_eq, Bool.and_eq_true, Bool.or_eq_true, Bool.not_eq_true, Bool.not_eq_false, beq_eq_false_iff_ne, bne_eq_false_iff_eq, Bool.not_eq_true', Bool.not_eq_false', Int.ofNat_lt, Int.ofNat_le, Bool.or_eq_false_iff, Bool.and_eq_false_imp, Decidable.not_not, gt_iff_lt, ge_iff_le] at hn) <;> (try (exfalso; omega)) <;> (refine Todo.of ?_)) | (((with_reducible refine dwp_condA ?_ ?_ ?_); · rfl) <;> (refine Todo.of ?_)))) <;> (try (first | (with_reducible rfl) | exact Nat.le_refl _ | exact Int.le_refl _ | assumption | omega))
noncomputable def s_cell2 : List DV → Prop × DV := spec3 eI eREns eRTy fun n l t => (rightTy l t = true ∧ t.k = 3 ∧ 0 ≤ n ∧ n < (ctAt l t).length, .str ((ctAt l t).getD n.toNat []))
theorem s_cell2_at (n : Int) (l : List En) (t : Ty) : s_cell2 [.int .i64 n, .ref [.sl (l.map cEn)], .ref (cTy t)] = (rightTy l t = true ∧ t.k = 3 ∧ 0 ≤ n ∧ n < (ctAt l t).length, .str ((ctAt l t).getD n.toNat [])) := spec3_at inj_I inj_REns inj_RTy _ n l t
theorem ok_val_cells_2 : OkP Tryd.prog 36 s_cell2 := by
  refine OkP.mk3 (ps := []) (hs := []) trivial trivial m_val_cells_2 fun n l t h => ?_
  try dsimp only at h
  obtain ⟨r, k3, n0, n1⟩ := h
  obtain ⟨i, ei, hi⟩ := enum_at r k3
  have hrow := en_getD hi
  obtain ⟨m, rfl⟩ : ∃ m : Nat, n = m := ⟨n.toNat, by omega⟩
  simp only [ctAt, ei, Int.toNat_natCast] at n1 ⊢
  have hm : m < (l.getD i default).ct.length := by omega
  have e2 := sls_getD hm
  (have hcondQ := Bool.and_self; refine Todo.of ?_); (repeat' (first | ((with_reducible refine Todo.to ?_); (repeat (first | (simp only [↓rP, rT, rU, eI, eU, eB, eS, eBs, eL, eA, buildCells, sepsD, sepB, hdl, dvalX, DOp.kind, dval, frameFrom, dBin, dInt, dStr, dBeq, dUn, dLoad, cellsAt, retV, retL, DR.val, fzT, fzVs, fzV, fz1, DV.immB, IntKind.bits, dCallP, viewVs, viewV, view1, capVL, capV, viewL, noMemV, noMem, elemsOf, dAppend, dAppz, dStore, DV.one, alive, freezeAt, fzLL, fzL, bRow, bU, cellsOf, setFrom, DV.isU, lenMax, lenCap, Nat.reduceEqDiff, Nat.reduceAdd, ↓reduceIte, reduceCtorEq, Nat.reduceSub, Int.reduceToNat, Int.reducePow, Nat.reducePow, Int.reduceLE, Int.reduceLT, Nat.reduceLeDiff, Nat.reduceLT, Int.reduceBEq, Int.reduceBNe, Int.reduceEq, Int.reduceNe, Int.reduceAdd, Int.reduceSub, Int.reduceMul, Int.reduceNeg, Int.reduceTDiv, Int.reduceTMod, Int.reduceMod, Int.reduceDiv, Nat.reduceMul, forall_const, implies_true, d_val_cells_2, eEns, eIls, eImg, ePrt, ePrts, eREns, eRTy, eRows, eSs, eTy, eY, sls_len, ils_len, ils_rowsT, sls_rowsT, sls_tk0, ils_tk0, s_RightTy_at, s_CellsTy_at, ei, hrow, e2, sls_len, List.length_map, hi, hm , hcondQ]) | (simp (disch := omega) only [i64_id, u64_id, u8_id, getD_map'])))) | ((with_reducible refine And.intro ?_ ?_); · first | trivial | omega | (simp; done) | (simp; omega)) | ((first | ((with_reducible refine dwp_condI (t := ?_) ?_ (fun hcQ => ?_) (fun hcQ => ?_)); rotate_left; · rfl) | ((with_reducible refine dops_guardI (t := ?_) ?_ (fun hcQ => ?_) (fun hcQ => ?_)); rotate_left; · rfl)) <;> (have hn := hcQ; have hcondQ := hcQ) <;> (try simp only [decide_eq_true_eq, decide_eq_false_iff_not, beq_iff_eq, bne_iff_ne, ne_eq, Bool.and_eq_true, Bool.or_eq_true, Bool.not_eq_true, Bool.not_eq_false, beq_eq_false_iff_ne, bne_eq_false_iff_eq, Bool.not_eq_true', Bool.not_eq_false', Int.ofNat_lt, Int.ofNat_le, Bool.or_eq_false_iff, Bool.and_eq_false_imp, Decidable.not_not, gt_iff_lt, ge_iff_le] at hn) <;> (try (exfalso; omega)) <;> (refine Todo.of ?_)) | (((with_reducible refine dwp_condA ?_ ?_ ?_); · rfl) <;> (refine Todo.of ?_)))) <;> (try (first | (with_reducible rfl) | exact Nat.le_refl _ | exact Int.le_refl _ | assumption | omega))
noncomputable def s_cell3 : List DV → Prop × DV := spec1 eI fun n => (okI64 n, .str (Lib.itoa n))
theorem s_cell3_at (n : Int) : s_cell3 [.int .i64 n] = (okI64 n, .str (Lib.itoa n)) := spec1_at inj_I _ n
theorem ok_val_cells_3 : OkP Tryd.prog 37 s_cell3 := by
  refine OkP.mk1 (ps := [(38, s_FmtI)]) (hs := []) ⟨ok_strconv_FormatInt, trivial⟩ trivial m_val_cells_3 fun n h => ?_
  try dsimp only at h
  have h : okI64 n := h
  have e := s_FmtI_at n 10
  rw [eq_true (And.intro h rfl)] at e
  (have hcondQ := Bool.and_self; refine Todo.of ?_); (repeat' (first | ((with_reducible refine Todo.to ?_); (repeat (first | (simp only [↓rP, rT, rU, eI, eU, eB, eS, eBs, eL, eA, buildCells, sepsD, sepB, hdl, dvalX, DOp.kind, dval, frameFrom, dBin, dInt, dStr, dBeq, dUn, dLoad, cellsAt, retV, retL, DR.val, fzT, fzVs, fzV, fz1, DV.immB, IntKind.bits, dCallP, viewVs, viewV, view1, capVL, capV, viewL, noMemV, noMem, elemsOf, dAppend, dAppz, dStore, DV.one, alive, freezeAt, fzLL, fzL, bRow, bU, cellsOf, setFrom, DV.isU, lenMax, lenCap, Nat.reduceEqDiff, Nat.reduceAdd, ↓reduceIte, reduceCtorEq, Nat.reduceSub, Int.reduceToNat, Int.reducePow, Nat.reducePow, Int.reduceLE, Int.reduceLT, Nat.reduceLeDiff, Nat.reduceLT, Int.reduceBEq, Int.reduceBNe, Int.reduceEq, Int.reduceNe, Int.reduceAdd, Int.reduceSub, Int.reduceMul, Int.reduceNeg, Int.reduceTDiv, Int.reduceTMod, Int.reduceMod, Int.reduceDiv, Nat.reduceMul, forall_const, implies_true, d_val_cells_3, s_FmtI_at, eEns, eIls, eImg, ePrt, ePrts, eREns, eRTy, eRows, eSs, eTy, eY, sls_len, ils_len, ils_rowsT, sls_rowsT, sls_tk0, ils_tk0, s_RightTy_at, s_CellsTy_at, e , hcondQ]) | (simp (disch := omega) only [i64_id, u64_id, u8_id, getD_map'])))) | ((with_reducible refine And.intro ?_ ?_); · first | trivial | omega | (simp; done) | (simp; omega)) | ((first | ((with_reducible refine dwp_condI (t := ?_) ?_ (fun hcQ => ?_) (fun hcQ => ?_)); rotate_left; · rfl) | ((with_reducible refine dops_guardI (t := ?_) ?_ (fun hcQ => ?_) (fun hcQ => ?_)); rotate_left; · rfl)) <;> (have hn := hcQ; have hcondQ := hcQ) <;> (try simp only [decide_eq_true_eq, decide_eq_false_iff_not, beq_iff_eq, bne_iff_ne, ne_eq, Bool.and_eq_true, Bool.or_eq_true, Bool.not_eq_true, Bool.not_eq_false, beq_eq_false_iff_ne, bne_eq_false_iff_eq, Bool.not_eq_true', Bool.not_eq_false', Int.ofNat_lt, Int.ofNat_le, Bool.or_eq_false_iff, Bool.and_eq_false_imp, Decidable.not_not, gt_iff_lt, ge_iff_le] at hn) <;> (try (exfalso; omega)) <;> (refine Todo.of ?_)) | (((with_reducible refine dwp_condA ?_ ?_ ?_); · rfl) <;> (refine Todo.of ?_)))) <;> (try (first | (with_reducible rfl) | exact Nat.le_refl _ | exact Int.le_refl _ | assumption | omega))
def cloV (l : List En) (t : Ty) : DV := if t.k = 2 then .clo 34 [] else if t.k = 3 then .clo 36 [.ref [.sl (l.map cEn)], .ref (cTy t)] else .clo 37 []
noncomputable def s_cells : List DV → Prop × DV := spec2 eEns eTy fun l t => (True, cloV l t)
theorem s_cells_at (l : List En) (t : Ty) : s_cells [.sl (l.map cEn), .agg (cTy t)] = (True, cloV l t) := spec2_at inj_Ens inj_Ty _ l t
theorem ok_val_cells : OkP Tryd.prog 22 s_cells := by
  refine OkP.mk2 (ps := []) (hs := []) trivial trivial m_val_cells fun l t _ => ?_
  by_cases k2 : t.k = 2
  · (have hcondQ := Bool.and_self; refine Todo.of ?_); (repeat' (first | ((with_reducible refine Todo.to ?_); (repeat (first | (simp only [↓rP, rT, rU, eI, eU, eB, eS, eBs, eL, eA, buildCells, sepsD, sepB, hdl, dvalX, DOp.kind, dval, frameFrom, dBin, dInt, dStr, dBeq, dUn, dLoad, cellsAt, retV, retL, DR.val, fzT, fzVs, fzV, fz1, DV.immB, IntKind.bits, dCallP, viewVs, viewV, view1, capVL, capV, viewL, noMemV, noMem, elemsOf, dAppend, dAppz, dStore, DV.one, alive, freezeAt, fzLL, fzL, bRow, bU, cellsOf, setFrom, DV.isU, lenMax, lenCap, Nat.reduceEqDiff, Nat.reduceAdd, ↓reduceIte, reduceCtorEq, Nat.reduceSub, Int.reduceToNat, Int.reducePow, Nat.reducePow, Int.reduceLE, Int.reduceLT, Nat.reduceLeDiff, Nat.reduceLT, Int.reduceBEq, Int.reduceBNe, Int.reduceEq, Int.reduceNe, Int.reduceAdd, Int.reduceSub, Int.reduceMul, Int.reduceNeg, Int.reduceTDiv, Int.reduceTMod, Int.reduceMod, Int.reduceDiv, Nat.reduceMul, forall_const, implies_true, d_val_cells, eEns, eIls, eImg, ePrt, ePrts, eREns, eRTy, eRows, eSs, eTy, eY, sls_len, ils_len, ils_rowsT, sls_rowsT, sls_tk0, ils_tk0, s_RightTy_at, s_CellsTy_at, k2, cloV , hcondQ]) | (simp (disch := omega) only [i64_id, u64_id, u8_id, getD_map'])))) | ((with_reducible refine And.intro ?_ ?_); · first | trivial | omega | (simp; done) | (simp; omega)) | ((first | ((with_reducible refine dwp_condI (t := ?_) ?_ (fun hcQ => ?_) (fun hcQ => ?_)); rotate_left; · rfl) | ((with_reducible refine dops_guardI (t := ?_) ?_ (fun hcQ => ?_) (fun hcQ => ?_)); rotate_left; · rfl)) <;> (have hn := hcQ; have hcondQ := hcQ) <;> (try simp only [decide_eq_true_eq, decide_eq_false_iff_not, beq_iff_eq, bne_iff_ne, ne_eq, Bool.and_eq_true, Bool.or_eq_true, Bool.not_eq_true, Bool.not_eq_false, beq_eq_false_iff_ne, bne_eq_false_iff_eq, Bool.not_eq_true', Bool.not_eq_false', Int.ofNat_lt, Int.ofNat_le, Bool.or_eq_false_iff, Bool.and_eq_false_imp, Decidable.not_not, gt_iff_lt, ge_iff_le] at hn) <;> (try (exfalso; omega)) <;> (refine Todo.of ?_)) | (((with_reducible refine dwp_condA ?_ ?_ ?_); · rfl) <;> (refine Todo.of ?_)))) <;> (try (first | (with_reducible rfl) | exact Nat.le_refl _ | exact Int.le_refl _ | assumption | omega))
  by_cases k3 : t.k = 3
  · (have hcondQ := Bool.and_self; refine Todo.of ?_); (repeat' (first | ((with_reducible refine Todo.to ?_); (repeat (first | (simp only [↓rP, rT, rU, eI, eU, eB, eS, eBs, eL, eA, buildCells, sepsD, sepB, hdl, dvalX, DOp.kind, dval, frameFrom, dBin, dInt, dStr, dBeq, dUn, dLoad, cellsAt, retV, retL, DR.val, fzT, fzVs, fzV, fz1, DV.immB, IntKind.bits, dCallP, viewVs, viewV, view1, capVL, capV, viewL, noMemV, noMem, elemsOf, dAppend, dAppz, dStore, DV.one, alive, freezeAt, fzLL, fzL, bRow, bU, cellsOf, setFrom, DV.isU, lenMax, lenCap, Nat.reduceEqDiff, Nat.reduceAdd, ↓reduceIte, reduceCtorEq, Nat.reduceSub, Int.reduceToNat, Int.reducePow, Nat.reducePow, Int.reduceLE, Int.reduceLT, Nat.reduceLeDiff, Nat.reduceLT, Int.reduceBEq, Int.reduceBNe, Int.reduceEq, Int.reduceNe, Int.reduceAdd, Int.reduceSub, Int.reduceMul, Int.reduceNeg, Int.reduceTDiv, Int.reduceTMod, Int.reduceMod, Int.reduceDiv, Nat.reduceMul, forall_const, implies_true, d_val_cells, eEns, eIls, eImg, ePrt, ePrts, eREns, eRTy, eRows, eSs, eTy, eY, sls_len, ils_len, ils_rowsT, sls_rowsT, sls_tk0, ils_tk0, s_RightTy_at, s_CellsTy_at, k2, k3, cloV , hcondQ]) | (simp (disch := omega) only [i64_id, u64_id, u8_id, getD_map'])))) | ((with_reducible refine And.intro ?_ ?_); · first | trivial | omega | (simp; done) | (simp; omega)) | ((first | ((with_reducible refine dwp_condI (t := ?_) ?_ (fun hcQ => ?_) (fun hcQ => ?_)); rotate_left; · rfl) | ((with_reducible refine dops_guardI (t := ?_) ?_ (fun hcQ => ?_) (fun hcQ => ?_)); rotate_left; · rfl)) <;> (have hn := hcQ; have hcondQ := hcQ) <;> (try simp only [decide_eq_true_eq, decide_eq_false_iff_not, beq_iff_eq, bne_iff_ne, ne_eq, Bool.and_eq_true, Bool.or_eq_true, Bool.not_eq_true, Bool.not_eq_false, beq_eq_false_iff_ne, bne_eq_false_iff_eq, Bool.not_eq_true', Bool.not_eq_false', Int.ofNat_lt, Int.ofNat_le, Bool.or_eq_false_iff, Bool.and_eq_false_imp, Decidable.not_not, gt_iff_lt, ge_iff_le] at hn) <;> (try (exfalso; omega)) <;> (refine Todo.of ?_)) | (((with_reducible refine dwp_condA ?_ ?_ ?_); · rfl) <;> (refine Todo.of ?_)))) <;> (try (first | (with_reducible rfl) | exact Nat.le_refl _ | exact Int.le_refl _ | assumption | omega))
  · (have hcondQ := Bool.and_self; refine Todo.of ?_); (repeat' (first | ((with_reducible refine Todo.to ?_); (repeat (first | (simp only [↓rP, rT, rU, eI, eU, eB, eS, eBs, eL, eA, buildCells, sepsD, sepB, hdl, dvalX, DOp.kind, dval, frameFrom, dBin, dInt, dStr, dBeq, dUn, dLoad, cellsAt, retV, retL, DR.val, fzT, fzVs, fzV, fz1, DV.immB, IntKind.bits, dCallP, viewVs, viewV, view1, capVL, capV, viewL, noMemV, noMem, elemsOf, dAppend, dAppz, dStore, DV.one, alive, freezeAt, fzLL, fzL, bRow, bU, cellsOf, setFrom, DV.isU, lenMax, lenCap, Nat.reduceEqDiff, Nat.reduceAdd, ↓reduceIte, reduceCtorEq, Nat.reduceSub, Int.reduceToNat, Int.reducePow, Nat.reducePow, Int.reduceLE, Int.reduceLT, Nat.reduceLeDiff, Nat.reduceLT, Int.reduceBEq, Int.reduceBNe, Int.reduceEq, Int.reduceNe, Int.reduceAdd, Int.reduceSub, Int.reduceMul, Int.reduceNeg, Int.reduceTDiv, Int.reduceTMod, Int.reduceMod, Int.reduceDiv, Nat.reduceMul, forall_const, implies_true, d_val_cells, eEns, eIls, eImg, ePrt, ePrts, eREns, eRTy, eRows, eSs, eTy, eY, sls_len, ils_len, ils_rowsT, sls_rowsT, sls_tk0, ils_tk0, s_RightTy_at, s_CellsTy_at, k2, k3, cloV , hcondQ]) | (simp (disch := omega) only [i64_id, u64_id, u8_id, getD_map'])))) | ((with_reducible refine And.intro ?_ ?_); · first | trivial | omega | (simp; done) | (simp; omega)) | ((first | ((with_reducible refine dwp_condI (t := ?_) ?_ (fun hcQ => ?_) (fun hcQ => ?_)); rotate_left; · rfl) | ((with_reducible refine dops_guardI (t := ?_) ?_ (fun hcQ => ?_) (fun hcQ => ?_)); rotate_left; · rfl)) <;> (have hn := hcQ; have hcondQ := hcQ) <;> (try simp only [decide_eq_true_eq, decide_eq_false_iff_not, beq_iff_eq, bne_iff_ne, ne_eq, Bool.and_eq_true, Bool.or_eq_true, Bool.not_eq_true, Bool.not_eq_false, beq_eq_false_iff_ne, bne_eq_false_iff_eq, Bool.not_eq_true', Bool.not_eq_false', Int.ofNat_lt, Int.ofNat_le, Bool.or_eq_false_iff, Bool.and_eq_false_imp, Decidable.not_not, gt_iff_lt, ge_iff_le] at hn) <;> (try (exfalso; omega)) <;> (refine Todo.of ?_)) | (((with_reducible refine dwp_condA ?_ ?_ ?_); · rfl) <;> (refine Todo.of ?_)))) <;> (try (first | (with_reducible rfl) | exact Nat.le_refl _ | exact Int.le_refl _ | assumption | omega))
structure okTx (l : List En) (v : List Int) : Prop where
  len : v.length ≤ 1000
  n : ∀ n ∈ v, okI64 n
  tx : ∀ x ∈ l, ∀ c ∈ x.ct, c.length ≤ 1000
def bodyT (l : List En) (t : Ty) (v : List Int) : List UInt8 := Lib.join (v.map (cellT l t)) [44]
def textV (l : List En) (t : Ty) (v : List Int) : List UInt8 := if rightV l t v then (if 0 < t.n then [91] ++ bodyT l t v ++ [93] else bodyT l t v) else []
theorem rightV_one {l : List En} {t : Ty} {v : List Int} (h : rightV l t v = true) : rightTy l t = true ∧ (v.length : Int) = cellsTy t ∧ ∀ n ∈ v, oneF l t n = true := by
  simp only [rightV, Bool.and_eq_true, beq_iff_eq, List.all_eq_true] at h
  exact ⟨h.1.1, h.1.2, h.2⟩
theorem one_ct {l : List En} {t : Ty} {n : Int} (h : oneF l t n = true) (k3 : t.k = 3) : 0 ≤ n ∧ n < (ctAt l t).length := by
  simp only [oneF, oneV, k3, Bool.and_eq_true] at h
  have := h.2
  simpa [ctAt] using this
theorem one_bool {l : List En} {t : Ty} {n : Int} (h : oneF l t n = true) (k2 : t.k = 2) : n = 0 ∨ n = 1 := by
  simp only [oneF, oneV, k2, Bool.and_eq_true] at h
  have := h.2
  simpa using this
theorem cellT_len {l : List En} {t : Ty} {v : List Int} (hk : okTx l v) {n : Int} (hn : n ∈ v) (h : oneF l t n = true) : (cellT l t n).length ≤ 1000 := by
  unfold cellT
  split
  · unfold boolT; split <;> decide
  · split
    · rename_i k3
      obtain ⟨h1, h2⟩ := one_ct h k3
      have r : rightTy l t = true := by simp only [oneF, Bool.and_eq_true] at h; exact h.1
      obtain ⟨i, ei, hi⟩ := enum_at r k3
      obtain ⟨m, rfl⟩ : ∃ m : Nat, n = m := ⟨n.toNat, by omega⟩
      have hm : m < (ctAt l t).length := by omega
      have e : (ctAt l t).getD (m : Int).toNat [] = (ctAt l t)[m] := by simp [hm]
      rw [e]
      have hi2 : l.getD i default ∈ l := by
        have : l.getD i default = l[i] := by simp [hi]
        rw [this]; exact List.getElem_mem hi
      refine hk.tx _ hi2 _ ?_
      have hm2 := List.getElem_mem hm
      simpa [ctAt, ei] using hm2
    · have := itoa_len (hk.n n hn); omega
theorem lens_le : ∀ (xs : List (List UInt8)), (∀ x ∈ xs, x.length ≤ 1000) → Lib.lens xs ≤ 1000 * xs.length
  | [], _ => by simp [Lib.lens]
  | x :: r, h => by
    have h1 := lens_le r fun y hy => h y (List.mem_cons_of_mem _ hy)
    have h2 := h x List.mem_cons_self
    simp only [Lib.lens, List.map_cons, List.sum_cons, List.length_cons] at h1 ⊢
    omega
theorem join_le (xs : List (List UInt8)) (h : ∀ x ∈ xs, x.length ≤ 1000) : (Lib.join xs [44]).length ≤ 1001 * xs.length := by
  cases xs with
  | nil => simp [Lib.join_nil]
  | cons x r =>
    rw [Lib.join_length]
    have := lens_le _ h
    simp only [List.length_cons, List.length_nil] at this ⊢
    omega
theorem join_snoc (xs : List (List UInt8)) (x s : List UInt8) : Lib.join (xs ++ [x]) s = if xs = [] then x else Lib.join xs s ++ s ++ x := by
  cases xs with
  | nil => simp [Lib.join_one]
  | cons y r => simp [Lib.join_cons, Lib.joinTail, List.append_assoc]
noncomputable def s_TextV : List DV → Prop × DV := spec3 eEns eTy eIls fun l t v => (okTx l v, .str (textV l t v))
theorem s_TextV_at (l : List En) (t : Ty) (v : List Int) : s_TextV [.sl (l.map cEn), .agg (cTy t), .sl (ils v)] = (okTx l v, .str (textV l t v)) := spec3_at inj_Ens inj_Ty inj_Ils _ l t v
theorem ok_val_Text : OkP Tryd.prog 8 s_TextV := by
  refine OkP.mk3 (ps := [(12, s_RightV), (22, s_cells), (34, s_cell1), (36, s_cell2), (37, s_cell3), (23, s_Join)]) (hs := []) ⟨ok_RightV, ok_val_cells, ok_val_cells_1, ok_val_cells_2, ok_val_cells_3, ok_strings_Join, trivial⟩ trivial m_val_Text fun l t v h => ?_
  try dsimp only at h
  have h : okTx l v := h
  have er := s_RightV_at l t v
  rw [eq_true (show v.length ≤ 1000000000 by have := h.len; omega)] at er
  cases r : rightV l t v
  · rw [r] at er
    have e : textV l t v = [] := by simp [textV, r]
    rw [e]
    (have hcondQ := Bool.and_self; refine Todo.of ?_); (repeat' (first | ((with_reducible refine Todo.to ?_); (repeat (first | (simp only [↓rP, rT, rU, eI, eU, eB, eS, eBs, eL, eA, buildCells, sepsD, sepB, hdl, dvalX, DOp.kind, dval, frameFrom, dBin, dInt, dStr, dBeq, dUn, dLoad, cellsAt, retV, retL, DR.val, fzT, fzVs, fzV, fz1, DV.immB, IntKind.bits, dCallP, viewVs, viewV, view1, capVL, capV, viewL, noMemV, noMem, elemsOf, dAppend, dAppz, dStore, DV.one, alive, freezeAt, fzLL, fzL, bRow, bU, cellsOf, setFrom, DV.isU, lenMax, lenCap, Nat.reduceEqDiff, Nat.reduceAdd, ↓reduceIte, reduceCtorEq, Nat.reduceSub, Int.reduceToNat, Int.reducePow, Nat.reducePow, Int.reduceLE, Int.reduceLT, Nat.reduceLeDiff, Nat.reduceLT, Int.reduceBEq, Int.reduceBNe, Int.reduceEq, Int.reduceNe, Int.reduceAdd, Int.reduceSub, Int.reduceMul, Int.reduceNeg, Int.reduceTDiv, Int.reduceTMod, Int.reduceMod, Int.reduceDiv, Nat.reduceMul, forall_const, implies_true, d_val_Text, s_RightV_at, s_cells_at, s_cell1_at, s_cell2_at, s_cell3_at, s_Join_at, eEns, eIls, eImg, ePrt, ePrts, eREns, eRTy, eRows, eSs, eTy, eY, sls_len, ils_len, ils_rowsT, sls_rowsT, sls_tk0, ils_tk0, s_RightTy_at, s_CellsTy_at, er , hcondQ]) | (simp (disch := omega) only [i64_id, u64_id, u8_id, getD_map'])))) | ((with_reducible refine And.intro ?_ ?_); · first | trivial | omega | (simp; done) | (simp; omega)) | ((first | ((with_reducible refine dwp_condI (t := ?_) ?_ (fun hcQ => ?_) (fun hcQ => ?_)); rotate_left; · rfl) | ((with_reducible refine dops_guardI (t := ?_) ?_ (fun hcQ => ?_) (fun hcQ => ?_)); rotate_left; · rfl)) <;> (have hn := hcQ; have hcondQ := hcQ) <;> (try simp only [decide_eq_true_eq, decide_eq_false_iff_not, beq_iff_eq, bne_iff_ne, ne_eq, Bool.and_eq_true, Bool.or_eq_true, Bool.not_eq_true, Bool.not_eq_false, beq_eq_false_iff_ne, bne_eq_false_iff_eq, Bool.not_eq_true', Bool.not_eq_false', Int.ofNat_lt, Int.ofNat_le, Bool.or_eq_false_iff, Bool.and_eq_false_imp, Decidable.not_not, gt_iff_lt, ge_iff_le] at hn) <;> (try (exfalso; omega)) <;> (refine Todo.of ?_)) | (((with_reducible refine dwp_condA ?_ ?_ ?_); · rfl) <;> (refine Todo.of ?_)))) <;> (try (first | (with_reducible rfl) | exact Nat.le_refl _ | exact Int.le_refl _ | assumption | omega))
  rw [r] at er
  obtain ⟨r1, r2, r3⟩ := rightV_one r
  have hcl : ∀ x ∈ v.map (cellT l t), x.length ≤ 1000 := fun x hx => by
    obtain ⟨n, hn, rfl⟩ := List.mem_map.1 hx
    exact cellT_len h hn (r3 n hn)
  have hjl := join_le _ hcl
  have hln := h.len
  rw [List.length_map] at hjl
  have ej := s_Join_at (v.map (cellT l t)) [44]
  rw [eq_true (show okJoin (v.map (cellT l t)) [44] from ⟨by rw [List.length_map]; omega, by omega⟩)] at ej
  have etx : textV l t v = if 0 < t.n then [91] ++ bodyT l t v ++ [93] else bodyT l t v := by simp [textV, r]
  rw [etx]
  by_cases k2 : t.k = 2
  · skip
    have hclo : cloV l t = .clo 34 [] := by simp [cloV, k2]
    (have hcondQ := Bool.and_self; refine Todo.of ?_); (repeat' (first | ((with_reducible refine Todo.to ?_); (repeat (first | (simp only [↓rP, rT, rU, eI, eU, eB, eS, eBs, eL, eA, buildCells, sepsD, sepB, hdl, dvalX, DOp.kind, dval, frameFrom, dBin, dInt, dStr, dBeq, dUn, dLoad, cellsAt, retV, retL, DR.val, fzT, fzVs, fzV, fz1, DV.immB, IntKind.bits, dCallP, viewVs, viewV, view1, capVL, capV, viewL, noMemV, noMem, elemsOf, dAppend, dAppz, dStore, DV.one, alive, freezeAt, fzLL, fzL, bRow, bU, cellsOf, setFrom, DV.isU, lenMax, lenCap, Nat.reduceEqDiff, Nat.reduceAdd, ↓reduceIte, reduceCtorEq, Nat.reduceSub, Int.reduceToNat, Int.reducePow, Nat.reducePow, Int.reduceLE, Int.reduceLT, Nat.reduceLeDiff, Nat.reduceLT, Int.reduceBEq, Int.reduceBNe, Int.reduceEq, Int.reduceNe, Int.reduceAdd, Int.reduceSub, Int.reduceMul, Int.reduceNeg, Int.reduceTDiv, Int.reduceTMod, Int.reduceMod, Int.reduceDiv, Nat.reduceMul, forall_const, implies_true, d_val_Text, s_RightV_at, s_cells_at, s_cell1_at, s_cell2_at, s_cell3_at, s_Join_at, eEns, eIls, eImg, ePrt, ePrts, eREns, eRTy, eRows, eSs, eTy, eY, sls_len, ils_len, ils_rowsT, sls_rowsT, sls_tk0, ils_tk0, s_RightTy_at, s_CellsTy_at, er, hclo , hcondQ]) | (simp (disch := omega) only [i64_id, u64_id, u8_id, getD_map'])))) | ((with_reducible refine And.intro ?_ ?_); · first | trivial | omega | (simp; done) | (simp; omega)) | ((first | ((with_reducible refine dwp_condI (t := ?_) ?_ (fun hcQ => ?_) (fun hcQ => ?_)); rotate_left; · rfl) | ((with_reducible refine dops_guardI (t := ?_) ?_ (fun hcQ => ?_) (fun hcQ => ?_)); rotate_left; · rfl)) <;> (have hn := hcQ; have hcondQ := hcQ) <;> (try simp only [decide_eq_true_eq, decide_eq_false_iff_not, beq_iff_eq, bne_iff_ne, ne_eq, Bool.and_eq_true, Bool.or_eq_true, Bool.not_eq_true, Bool.not_eq_false, beq_eq_false_iff_ne, bne_eq_false_iff_eq, Bool.not_eq_true', Bool.not_eq_false', Int.ofNat_lt, Int.ofNat_le, Bool.or_eq_false_iff, Bool.and_eq_false_imp, Decidable.not_not, gt_iff_lt, ge_iff_le] at hn) <;> (try (exfalso; omega)) <;> (refine Todo.of ?_)) | (((with_reducible refine dwp_condA ?_ ?_ ?_); · rfl) <;> (refine Todo.of ?_)))) <;> (try (first | (with_reducible rfl) | exact Nat.le_refl _ | exact Int.le_refl _ | assumption | omega))
    refine dwp_each v (fun (k : Nat) (_ : Unit) => ⟨[(4, .ref (cTy t)), (7, .own 0 k 0 k), (8, .clo 34 []), (20, .sl (ils v)), (21, .int .i64 v.length), (22, .int .i64 k)], [⟨.imm, 1, sls ((v.take k).map (cellT l t))⟩]⟩) (fun _ _ _ => True) () (Nat.zero_le _) (by simp only [cut_some, cut_none, List.map_cons, List.map_nil, get_cons, Nk.get_nil, Nat.reduceEqDiff, ↓reduceIte, Nat.succ_ne_self, DV.cut, DV.inB, DObj.cut, List.take_nil, List.take_zero, if_true, Nat.zero_ne_one, Nat.one_ne_zero, DV.inBL, Bool.and_true, Bool.true_and, reduceCtorEq, Nat.zero_lt_one, decide_true, decide_false, Nat.reduceLT, List.take_succ_cons, Int.natCast_add, Int.natCast_one, List.length_append, List.length_cons, List.length_nil, Nat.zero_add, sls, List.take_zero, List.map_nil] <;> rfl) trivial (fun k x rr _ d hx hd _ => ?_) fun k _ hk _ => ?_
    · have w : IntKind.i64.wrap ((k : Int) + 1) = ((k + 1 : Nat) : Int) := by rw [wrap_i64_id (by omega)]; omega
      have k0 : (0 : Int) ≤ k := Int.natCast_nonneg k
      have hxm := List.mem_of_getElem? hx
      have hone := r3 x hxm
      have ec := s_cell1_at x
      have ecx : cellT l t x = boolT (x != 0) := by simp [cellT, k2]
      rw [← ecx] at ec
      have htk : sls ((v.take k).map (cellT l t)) ++ [[.str (cellT l t x)]] = sls ((v.take (k + 1)).map (cellT l t)) := by
        rw [sls_snoc, List.take_add_one, hx]; simp
      (have hcondQ := Bool.and_self; refine Todo.of ?_); (repeat' (first | ((with_reducible refine Todo.to ?_); (repeat (first | (simp only [↓rP, rT, rU, eI, eU, eB, eS, eBs, eL, eA, buildCells, sepsD, sepB, hdl, dvalX, DOp.kind, dval, frameFrom, dBin, dInt, dStr, dBeq, dUn, dLoad, cellsAt, retV, retL, DR.val, fzT, fzVs, fzV, fz1, DV.immB, IntKind.bits, dCallP, viewVs, viewV, view1, capVL, capV, viewL, noMemV, noMem, elemsOf, dAppend, dAppz, dStore, DV.one, alive, freezeAt, fzLL, fzL, bRow, bU, cellsOf, setFrom, DV.isU, lenMax, lenCap, Nat.reduceEqDiff, Nat.reduceAdd, ↓reduceIte, reduceCtorEq, Nat.reduceSub, Int.reduceToNat, Int.reducePow, Nat.reducePow, Int.reduceLE, Int.reduceLT, Nat.reduceLeDiff, Nat.reduceLT, Int.reduceBEq, Int.reduceBNe, Int.reduceEq, Int.reduceNe, Int.reduceAdd, Int.reduceSub, Int.reduceMul, Int.reduceNeg, Int.reduceTDiv, Int.reduceTMod, Int.reduceMod, Int.reduceDiv, Nat.reduceMul, forall_const, implies_true, d_val_Text, s_RightV_at, s_cells_at, s_cell1_at, s_cell2_at, s_cell3_at, s_Join_at, eEns, eIls, eImg, ePrt, ePrts, eREns, eRTy, eRows, eSs, eTy, eY, sls_len, ils_len, ils_rowsT, sls_rowsT, sls_tk0, ils_tk0, s_RightTy_at, s_CellsTy_at, d, k0, ils_at hx, w, ec, htk, sls_len, List.length_map, List.length_take , hcondQ]) | (simp (disch := omega) only [i64_id, u64_id, u8_id, getD_map'])))) | ((with_reducible refine And.intro ?_ ?_); · first | trivial | omega | (simp; done) | (simp; omega)) | ((first | ((with_reducible refine dwp_condI (t := ?_) ?_ (fun hcQ => ?_) (fun hcQ => ?_)); rotate_left; · rfl) | ((with_reducible refine dops_guardI (t := ?_) ?_ (fun hcQ => ?_) (fun hcQ => ?_)); rotate_left; · rfl)) <;> (have hn := hcQ; have hcondQ := hcQ) <;> (try simp only [decide_eq_true_eq, decide_eq_false_iff_not, beq_iff_eq, bne_iff_ne, ne_eq, Bool.and_eq_true, Bool.or_eq_true, Bool.not_eq_true, Bool.not_eq_false, beq_eq_false_iff_ne, bne_eq_false_iff_eq, Bool.not_eq_true', Bool.not_eq_false', Int.ofNat_lt, Int.ofNat_le, Bool.or_eq_false_iff, Bool.and_eq_false_imp, Decidable.not_not, gt_iff_lt, ge_iff_le] at hn) <;> (try (exfalso; omega)) <;> (refine Todo.of ?_)) | (((with_reducible refine dwp_condA ?_ ?_ ?_); · rfl) <;> (refine Todo.of ?_)))) <;> (try (first | (with_reducible rfl) | exact Nat.le_refl _ | exact Int.le_refl _ | assumption | omega))
      all_goals first | omega | exact ⟨(), trivial⟩ | exact ⟨(), by simp only [cut_some, cut_none, List.map_cons, List.map_nil, get_cons, Nk.get_nil, Nat.reduceEqDiff, ↓reduceIte, Nat.succ_ne_self, DV.cut, DV.inB, DObj.cut, List.take_nil, List.take_zero, if_true, Nat.zero_ne_one, Nat.one_ne_zero, DV.inBL, Bool.and_true, Bool.true_and, reduceCtorEq, Nat.zero_lt_one, decide_true, decide_false, Nat.reduceLT, List.take_succ_cons, Int.natCast_add, Int.natCast_one, List.length_append, List.length_cons, List.length_nil, Nat.zero_add] <;> rfl⟩
    · subst hk
      have d2 : ¬ v.length < v.length := by omega
      have htk2 : (sls (v.map (cellT l t))).take v.length = sls (v.map (cellT l t)) := List.take_of_length_le (by rw [sls_len, List.length_map]; omega)
      have hf : (v.take v.length).map (cellT l t) = v.map (cellT l t) := by rw [List.take_of_length_le (Nat.le_refl _)]
      rw [hf]
      by_cases n0 : 0 < t.n
      · rw [if_pos n0]
        (have hcondQ := Bool.and_self; refine Todo.of ?_); (repeat' (first | ((with_reducible refine Todo.to ?_); (repeat (first | (simp only [↓rP, rT, rU, eI, eU, eB, eS, eBs, eL, eA, buildCells, sepsD, sepB, hdl, dvalX, DOp.kind, dval, frameFrom, dBin, dInt, dStr, dBeq, dUn, dLoad, cellsAt, retV, retL, DR.val, fzT, fzVs, fzV, fz1, DV.immB, IntKind.bits, dCallP, viewVs, viewV, view1, capVL, capV, viewL, noMemV, noMem, elemsOf, dAppend, dAppz, dStore, DV.one, alive, freezeAt, fzLL, fzL, bRow, bU, cellsOf, setFrom, DV.isU, lenMax, lenCap, Nat.reduceEqDiff, Nat.reduceAdd, ↓reduceIte, reduceCtorEq, Nat.reduceSub, Int.reduceToNat, Int.reducePow, Nat.reducePow, Int.reduceLE, Int.reduceLT, Nat.reduceLeDiff, Nat.reduceLT, Int.reduceBEq, Int.reduceBNe, Int.reduceEq, Int.reduceNe, Int.reduceAdd, Int.reduceSub, Int.reduceMul, Int.reduceNeg, Int.reduceTDiv, Int.reduceTMod, Int.reduceMod, Int.reduceDiv, Nat.reduceMul, forall_const, implies_true, d_val_Text, s_RightV_at, s_cells_at, s_cell1_at, s_cell2_at, s_cell3_at, s_Join_at, eEns, eIls, eImg, ePrt, ePrts, eREns, eRTy, eRows, eSs, eTy, eY, sls_len, ils_len, ils_rowsT, sls_rowsT, sls_tk0, ils_tk0, s_RightTy_at, s_CellsTy_at, d2, ej, htk2, n0, bodyT, strMax, List.length_map, List.length_append, sls_len , hcondQ]) | (simp (disch := omega) only [i64_id, u64_id, u8_id, getD_map'])))) | ((with_reducible refine And.intro ?_ ?_); · first | trivial | omega | (simp; done) | (simp; omega)) | ((first | ((with_reducible refine dwp_condI (t := ?_) ?_ (fun hcQ => ?_) (fun hcQ => ?_)); rotate_left; · rfl) | ((with_reducible refine dops_guardI (t := ?_) ?_ (fun hcQ => ?_) (fun hcQ => ?_)); rotate_left; · rfl)) <;> (have hn := hcQ; have hcondQ := hcQ) <;> (try simp only [decide_eq_true_eq, decide_eq_false_iff_not, beq_iff_eq, bne_iff_ne, ne_eq, Bool.and_eq_true, Bool.or_eq_true, Bool.not_eq_true, Bool.not_eq_false, beq_eq_false_iff_ne, bne_eq_false_iff_eq, Bool.not_eq_true', Bool.not_eq_false', Int.ofNat_lt, Int.ofNat_le, Bool.or_eq_false_iff, Bool.and_eq_false_imp, Decidable.not_not, gt_iff_lt, ge_iff_le] at hn) <;> (try (exfalso; omega)) <;> (refine Todo.of ?_)) | (((with_reducible refine dwp_condA ?_ ?_ ?_); · rfl) <;> (refine Todo.of ?_)))) <;> (try (first | (with_reducible rfl) | exact Nat.le_refl _ | exact Int.le_refl _ | assumption | omega))
      · rw [if_neg n0]
        (have hcondQ := Bool.and_self; refine Todo.of ?_); (repeat' (first | ((with_reducible refine Todo.to ?_); (repeat (first | (simp only [↓rP, rT, rU, eI, eU, eB, eS, eBs, eL, eA, buildCells, sepsD, sepB, hdl, dvalX, DOp.kind, dval, frameFrom, dBin, dInt, dStr, dBeq, dUn, dLoad, cellsAt, retV, retL, DR.val, fzT, fzVs, fzV, fz1, DV.immB, IntKind.bits, dCallP, viewVs, viewV, view1, capVL, capV, viewL, noMemV, noMem, elemsOf, dAppend, dAppz, dStore, DV.one, alive, freezeAt, fzLL, fzL, bRow, bU, cellsOf, setFrom, DV.isU, lenMax, lenCap, Nat.reduceEqDiff, Nat.reduceAdd, ↓reduceIte, reduceCtorEq, Nat.reduceSub, Int.reduceToNat, Int.reducePow, Nat.reducePow, Int.reduceLE, Int.reduceLT, Nat.reduceLeDiff, Nat.reduceLT, Int.reduceBEq, Int.reduceBNe, Int.reduceEq, Int.reduceNe, Int.reduceAdd, Int.reduceSub, Int.reduceMul, Int.reduceNeg, Int.reduceTDiv, Int.reduceTMod, Int.reduceMod, Int.reduceDiv, Nat.reduceMul, forall_const, implies_true, d_val_Text, s_RightV_at, s_cells_at, s_cell1_at, s_cell2_at, s_cell3_at, s_Join_at, eEns, eIls, eImg, ePrt, ePrts, eREns, eRTy, eRows, eSs, eTy, eY, sls_len, ils_len, ils_rowsT, sls_rowsT, sls_tk0, ils_tk0, s_RightTy_at, s_CellsTy_at, d2, ej, htk2, n0, bodyT, List.length_map, sls_len , hcondQ]) | (simp (disch := omega) only [i64_id, u64_id, u8_id, getD_map'])))) | ((with_reducible refine And.intro ?_ ?_); · first | trivial | omega | (simp; done) | (simp; omega)) | ((first | ((with_reducible refine dwp_condI (t := ?_) ?_ (fun hcQ => ?_) (fun hcQ => ?_)); rotate_left; · rfl) | ((with_reducible refine dops_guardI (t := ?_) ?_ (fun hcQ => ?_) (fun hcQ => ?_)); rotate_left; · rfl)) <;> (have hn := hcQ; have hcondQ := hcQ) <;> (try simp only [decide_eq_true_eq, decide_eq_false_iff_not, beq_iff_eq, bne_iff_ne, ne_eq, Bool.and_eq_true, Bool.or_eq_true, Bool.not_eq_true, Bool.not_eq_false, beq_eq_false_iff_ne, bne_eq_false_iff_eq, Bool.not_eq_true', Bool.not_eq_false', Int.ofNat_lt, Int.ofNat_le, Bool.or_eq_false_iff, Bool.and_eq_false_imp, Decidable.not_not, gt_iff_lt, ge_iff_le] at hn) <;> (try (exfalso; omega)) <;> (refine Todo.of ?_)) | (((with_reducible refine dwp_condA ?_ ?_ ?_); · rfl) <;> (refine Todo.of ?_)))) <;> (try (first | (with_reducible rfl) | exact Nat.le_refl _ | exact Int.le_refl _ | assumption | omega))
  by_cases k3 : t.k = 3
  · skip
    have hclo : cloV l t = .clo 36 [.ref [.sl (l.map cEn)], .ref (cTy t)] := by simp [cloV, k2, k3]
    (have hcondQ := Bool.and_self; refine Todo.of ?_); (repeat' (first | ((with_reducible refine Todo.to ?_); (repeat (first | (simp only [↓rP, rT, rU, eI, eU, eB, eS, eBs, eL, eA, buildCells, sepsD, sepB, hdl, dvalX, DOp.kind, dval, frameFrom, dBin, dInt, dStr, dBeq, dUn, dLoad, cellsAt, retV, retL, DR.val, fzT, fzVs, fzV, fz1, DV.immB, IntKind.bits, dCallP, viewVs, viewV, view1, capVL, capV, viewL, noMemV, noMem, elemsOf, dAppend, dAppz, dStore, DV.one, alive, freezeAt, fzLL, fzL, bRow, bU, cellsOf, setFrom, DV.isU, lenMax, lenCap, Nat.reduceEqDiff, Nat.reduceAdd, ↓reduceIte, reduceCtorEq, Nat.reduceSub, Int.reduceToNat, Int.reducePow, Nat.reducePow, Int.reduceLE, Int.reduceLT, Nat.reduceLeDiff, Nat.reduceLT, Int.reduceBEq, Int.reduceBNe, Int.reduceEq, Int.reduceNe, Int.reduceAdd, Int.reduceSub, Int.reduceMul, Int.reduceNeg, Int.reduceTDiv, Int.reduceTMod, Int.reduceMod, Int.reduceDiv, Nat.reduceMul, forall_const, implies_true, d_val_Text, s_RightV_at, s_cells_at, s_cell1_at, s_cell2_at, s_cell3_at, s_Join_at, eEns, eIls, eImg, ePrt, ePrts, eREns, eRTy, eRows, eSs, eTy, eY, sls_len, ils_len, ils_rowsT, sls_rowsT, sls_tk0, ils_tk0, s_RightTy_at, s_CellsTy_at, er, hclo , hcondQ]) | (simp (disch := omega) only [i64_id, u64_id, u8_id, getD_map'])))) | ((with_reducible refine And.intro ?_ ?_); · first | trivial | omega | (simp; done) | (simp; omega)) | ((first | ((with_reducible refine dwp_condI (t := ?_) ?_ (fun hcQ => ?_) (fun hcQ => ?_)); rotate_left; · rfl) | ((with_reducible refine dops_guardI (t := ?_) ?_ (fun hcQ => ?_) (fun hcQ => ?_)); rotate_left; · rfl)) <;> (have hn := hcQ; have hcondQ := hcQ) <;> (try simp only [decide_eq_true_eq, decide_eq_false_iff_not, beq_iff_eq, bne_iff_ne, ne_eq, Bool.and_eq_true, Bool.or_eq_true, Bool.not_eq_true, Bool.not_eq_false, beq_eq_false_iff_ne, bne_eq_false_iff_eq, Bool.not_eq_true', Bool.not_eq_false', Int.ofNat_lt, Int.ofNat_le, Bool.or_eq_false_iff, Bool.and_eq_false_imp, Decidable.not_not, gt_iff_lt, ge_iff_le] at hn) <;> (try (exfalso; omega)) <;> (refine Todo.of ?_)) | (((with_reducible refine dwp_condA ?_ ?_ ?_); · rfl) <;> (refine Todo.of ?_)))) <;> (try (first | (with_reducible rfl) | exact Nat.le_refl _ | exact Int.le_refl _ | assumption | omega))
    refine dwp_each v (fun (k : Nat) (_ : Unit) => ⟨[(4, .ref (cTy t)), (7, .own 0 k 0 k), (8, .clo 36 [.ref [.sl (l.map cEn)], .ref (cTy t)]), (20, .sl (ils v)), (21, .int .i64 v.length), (22, .int .i64 k)], [⟨.imm, 1, sls ((v.take k).map (cellT l t))⟩]⟩) (fun _ _ _ => True) () (Nat.zero_le _) (by simp only [cut_some, cut_none, List.map_cons, List.map_nil, get_cons, Nk.get_nil, Nat.reduceEqDiff, ↓reduceIte, Nat.succ_ne_self, DV.cut, DV.inB, DObj.cut, List.take_nil, List.take_zero, if_true, Nat.zero_ne_one, Nat.one_ne_zero, DV.inBL, Bool.and_true, Bool.true_and, reduceCtorEq, Nat.zero_lt_one, decide_true, decide_false, Nat.reduceLT, List.take_succ_cons, Int.natCast_add, Int.natCast_one, List.length_append, List.length_cons, List.length_nil, Nat.zero_add, sls, List.take_zero, List.map_nil] <;> rfl) trivial (fun k x rr _ d hx hd _ => ?_) fun k _ hk _ => ?_
    · have w : IntKind.i64.wrap ((k : Int) + 1) = ((k + 1 : Nat) : Int) := by rw [wrap_i64_id (by omega)]; omega
      have k0 : (0 : Int) ≤ k := Int.natCast_nonneg k
      have hxm := List.mem_of_getElem? hx
      have hone := r3 x hxm
      have ec := s_cell2_at x l t
      obtain ⟨c1, c2⟩ := one_ct hone k3
      have ecx : cellT l t x = (ctAt l t).getD x.toNat [] := by simp only [cellT, if_neg k2, if_pos k3]
      rw [← ecx, eq_true (show rightTy l t = true ∧ t.k = 3 ∧ 0 ≤ x ∧ x < (ctAt l t).length from ⟨r1, k3, c1, c2⟩)] at ec
      have htk : sls ((v.take k).map (cellT l t)) ++ [[.str (cellT l t x)]] = sls ((v.take (k + 1)).map (cellT l t)) := by
        rw [sls_snoc, List.take_add_one, hx]; simp
      (have hcondQ := Bool.and_self; refine Todo.of ?_); (repeat' (first | ((with_reducible refine Todo.to ?_); (repeat (first | (simp only [↓rP, rT, rU, eI, eU, eB, eS, eBs, eL, eA, buildCells, sepsD, sepB, hdl, dvalX, DOp.kind, dval, frameFrom, dBin, dInt, dStr, dBeq, dUn, dLoad, cellsAt, retV, retL, DR.val, fzT, fzVs, fzV, fz1, DV.immB, IntKind.bits, dCallP, viewVs, viewV, view1, capVL, capV, viewL, noMemV, noMem, elemsOf, dAppend, dAppz, dStore, DV.one, alive, freezeAt, fzLL, fzL, bRow, bU, cellsOf, setFrom, DV.isU, lenMax, lenCap, Nat.reduceEqDiff, Nat.reduceAdd, ↓reduceIte, reduceCtorEq, Nat.reduceSub, Int.reduceToNat, Int.reducePow, Nat.reducePow, Int.reduceLE, Int.reduceLT, Nat.reduceLeDiff, Nat.reduceLT, Int.reduceBEq, Int.reduceBNe, Int.reduceEq, Int.reduceNe, Int.reduceAdd, Int.reduceSub, Int.reduceMul, Int.reduceNeg, Int.reduceTDiv, Int.reduceTMod, Int.reduceMod, Int.reduceDiv, Nat.reduceMul, forall_const, implies_true, d_val_Text, s_RightV_at, s_cells_at, s_cell1_at, s_cell2_at, s_cell3_at, s_Join_at, eEns, eIls, eImg, ePrt, ePrts, eREns, eRTy, eRows, eSs, eTy, eY, sls_len, ils_len, ils_rowsT, sls_rowsT, sls_tk0, ils_tk0, s_RightTy_at, s_CellsTy_at, d, k0, ils_at hx, w, ec, htk, sls_len, List.length_map, List.length_take , hcondQ]) | (simp (disch := omega) only [i64_id, u64_id, u8_id, getD_map'])))) | ((with_reducible refine And.intro ?_ ?_); · first | trivial | omega | (simp; done) | (simp; omega)) | ((first | ((with_reducible refine dwp_condI (t := ?_) ?_ (fun hcQ => ?_) (fun hcQ => ?_)); rotate_left; · rfl) | ((with_reducible refine dops_guardI (t := ?_) ?_ (fun hcQ => ?_) (fun hcQ => ?_)); rotate_left; · rfl)) <;> (have hn := hcQ; have hcondQ := hcQ) <;> (try simp only [decide_eq_true_eq, decide_eq_false_iff_not, beq_iff_eq, bne_iff_ne, ne_eq, Bool.and_eq_true, Bool.or_eq_true, Bool.not_eq_true, Bool.not_eq_false, beq_eq_false_iff_ne, bne_eq_false_iff_eq, Bool.not_eq_true', Bool.not_eq_false', Int.ofNat_lt, Int.ofNat_le, Bool.or_eq_false_iff, Bool.and_eq_false_imp, Decidable.not_not, gt_iff_lt, ge_iff_le] at hn) <;> (try (exfalso; omega)) <;> (refine Todo.of ?_)) | (((with_reducible refine dwp_condA ?_ ?_ ?_); · rfl) <;> (refine Todo.of ?_)))) <;> (try (first | (with_reducible rfl) | exact Nat.le_refl _ | exact Int.le_refl _ | assumption | omega))
      all_goals first | omega | exact ⟨(), trivial⟩ | exact ⟨(), by simp only [cut_some, cut_none, List.map_cons, List.map_nil, get_cons, Nk.get_nil, Nat.reduceEqDiff, ↓reduceIte, Nat.succ_ne_self, DV.cut, DV.inB, DObj.cut, List.take_nil, List.take_zero, if_true, Nat.zero_ne_one, Nat.one_ne_zero, DV.inBL, Bool.and_true, Bool.true_and, reduceCtorEq, Nat.zero_lt_one, decide_true, decide_false, Nat.reduceLT, List.take_succ_cons, Int.natCast_add, Int.natCast_one, List.length_append, List.length_cons, List.length_nil, Nat.zero_add] <;> rfl⟩
    · subst hk
      have d2 : ¬ v.length < v.length := by omega
      have htk2 : (sls (v.map (cellT l t))).take v.length = sls (v.map (cellT l t)) := List.take_of_length_le (by rw [sls_len, List.length_map]; omega)
      have hf : (v.take v.length).map (cellT l t) = v.map (cellT l t) := by rw [List.take_of_length_le (Nat.le_refl _)]
      rw [hf]
      by_cases n0 : 0 < t.n
      · rw [if_pos n0]
        (have hcondQ := Bool.and_self; refine Todo.of ?_); (repeat' (first | ((with_reducible refine Todo.to ?_); (repeat (first | (simp only [↓rP, rT, rU, eI, eU, eB, eS, eBs, eL, eA, buildCells, sepsD, sepB, hdl, dvalX, DOp.kind, dval, frameFrom, dBin, dInt, dStr, dBeq, dUn, dLoad, cellsAt, retV, retL, DR.val, fzT, fzVs, fzV, fz1, DV.immB, IntKind.bits, dCallP, viewVs, viewV, view1, capVL, capV, viewL, noMemV, noMem, elemsOf, dAppend, dAppz, dStore, DV.one, alive, freezeAt, fzLL, fzL, bRow, bU, cellsOf, setFrom, DV.isU, lenMax, lenCap, Nat.reduceEqDiff, Nat.reduceAdd, ↓reduceIte, reduceCtorEq, Nat.reduceSub, Int.reduceToNat, Int.reducePow, Nat.reducePow, Int.reduceLE, Int.reduceLT, Nat.reduceLeDiff, Nat.reduceLT, Int.reduceBEq, Int.reduceBNe, Int.reduceEq, Int.reduceNe, Int.reduceAdd, Int.reduceSub, Int.reduceMul, Int.reduceNeg, Int.reduceTDiv, Int.reduceTMod, Int.reduceMod, Int.reduceDiv, Nat.reduceMul, forall_const, implies_true, d_val_Text, s_RightV_at, s_cells_at, s_cell1_at, s_cell2_at, s_cell3_at, s_Join_at, eEns, eIls, eImg, ePrt, ePrts, eREns, eRTy, eRows, eSs, eTy, eY, sls_len, ils_len, ils_rowsT, sls_rowsT, sls_tk0, ils_tk0, s_RightTy_at, s_CellsTy_at, d2, ej, htk2, n0, bodyT, strMax, List.length_map, List.length_append, sls_len , hcondQ]) | (simp (disch := omega) only [i64_id, u64_id, u8_id, getD_map'])))) | ((with_reducible refine And.intro ?_ ?_); · first | trivial | omega | (simp; done) | (simp; omega)) | ((first | ((with_reducible refine dwp_condI (t := ?_) ?_ (fun hcQ => ?_) (fun hcQ => ?_)); rotate_left; · rfl) | ((with_reducible refine dops_guardI (t := ?_) ?_ (fun hcQ => ?_) (fun hcQ => ?_)); rotate_left; · rfl)) <;> (have hn := hcQ; have hcondQ := hcQ) <;> (try simp only [decide_eq_true_eq, decide_eq_false_iff_not, beq_iff_eq, bne_iff_ne, ne_eq, Bool.and_eq_true, Bool.or_eq_true, Bool.not_eq_true, Bool.not_eq_false, beq_eq_false_iff_ne, bne_eq_false_iff_eq, Bool.not_eq_true', Bool.not_eq_false', Int.ofNat_lt, Int.ofNat_le, Bool.or_eq_false_iff, Bool.and_eq_false_imp, Decidable.not_not, gt_iff_lt, ge_iff_le] at hn) <;> (try (exfalso; omega)) <;> (refine Todo.of ?_)) | (((with_reducible refine dwp_condA ?_ ?_ ?_); · rfl) <;> (refine Todo.of ?_)))) <;> (try (first | (with_reducible rfl) | exact Nat.le_refl _ | exact Int.le_refl _ | assumption | omega))
      · rw [if_neg n0]
        (have hcondQ := Bool.and_self; refine Todo.of ?_); (repeat' (first | ((with_reducible refine Todo.to ?_); (repeat (first | (simp only [↓rP, rT, rU, eI, eU, eB, eS, eBs, eL, eA, buildCells, sepsD, sepB, hdl, dvalX, DOp.kind, dval, frameFrom, dBin, dInt, dStr, dBeq, dUn, dLoad, cellsAt, retV, retL, DR.val, fzT, fzVs, fzV, fz1, DV.immB, IntKind.bits, dCallP, viewVs, viewV, view1, capVL, capV, viewL, noMemV, noMem, elemsOf, dAppend, dAppz, dStore, DV.one, alive, freezeAt, fzLL, fzL, bRow, bU, cellsOf, setFrom, DV.isU, lenMax, lenCap, Nat.reduceEqDiff, Nat.reduceAdd, ↓reduceIte, reduceCtorEq, Nat.reduceSub, Int.reduceToNat, Int.reducePow, Nat.reducePow, Int.reduceLE, Int.reduceLT, Nat.reduceLeDiff, Nat.reduceLT, Int.reduceBEq, Int.reduceBNe, Int.reduceEq, Int.reduceNe, Int.reduceAdd, Int.reduceSub, Int.reduceMul, Int.reduceNeg, Int.reduceTDiv, Int.reduceTMod, Int.reduceMod, Int.reduceDiv, Nat.reduceMul, forall_const, implies_true, d_val_Text, s_RightV_at, s_cells_at, s_cell1_at, s_cell2_at, s_cell3_at, s_Join_at, eEns, eIls, eImg, ePrt, ePrts, eREns, eRTy, eRows, eSs, eTy, eY, sls_len, ils_len, ils_rowsT, sls_rowsT, sls_tk0, ils_tk0, s_RightTy_at, s_CellsTy_at, d2, ej, htk2, n0, bodyT, List.length_map, sls_len , hcondQ]) | (simp (disch := omega) only [i64_id, u64_id, u8_id, getD_map'])))) | ((with_reducible refine And.intro ?_ ?_); · first | trivial | omega | (simp; done) | (simp; omega)) | ((first | ((with_reducible refine dwp_condI (t := ?_) ?_ (fun hcQ => ?_) (fun hcQ => ?_)); rotate_left; · rfl) | ((with_reducible refine dops_guardI (t := ?_) ?_ (fun hcQ => ?_) (fun hcQ => ?_)); rotate_left; · rfl)) <;> (have hn := hcQ; have hcondQ := hcQ) <;> (try simp only [decide_eq_true_eq, decide_eq_false_iff_not, beq_iff_eq, bne_iff_ne, ne_eq, Bool.and_eq_true, Bool.or_eq_true, Bool.not_eq_true, Bool.not_eq_false, beq_eq_false_iff_ne, bne_eq_false_iff_eq, Bool.not_eq_true', Bool.not_eq_false', Int.ofNat_lt, Int.ofNat_le, Bool.or_eq_false_iff, Bool.and_eq_false_imp, Decidable.not_not, gt_iff_lt, ge_iff_le] at hn) <;> (try (exfalso; omega)) <;> (refine Todo.of ?_)) | (((with_reducible refine dwp_condA ?_ ?_ ?_); · rfl) <;> (refine Todo.of ?_)))) <;> (try (first | (with_reducible rfl) | exact Nat.le_refl _ | exact Int.le_refl _ | assumption | omega))
  · skip
    have hclo : cloV l t = .clo 37 [] := by simp [cloV, k2, k3]
    (have hcondQ := Bool.and_self; refine Todo.of ?_); (repeat' (first | ((with_reducible refine Todo.to ?_); (repeat (first | (simp only [↓rP, rT, rU, eI, eU, eB, eS, eBs, eL, eA, buildCells, sepsD, sepB, hdl, dvalX, DOp.kind, dval, frameFrom, dBin, dInt, dStr, dBeq, dUn, dLoad, cellsAt, retV, retL, DR.val, fzT, fzVs, fzV, fz1, DV.immB, IntKind.bits, dCallP, viewVs, viewV, view1, capVL, capV, viewL, noMemV, noMem, elemsOf, dAppend, dAppz, dStore, DV.one, alive, freezeAt, fzLL, fzL, bRow, bU, cellsOf, setFrom, DV.isU, lenMax, lenCap, Nat.reduceEqDiff, Nat.reduceAdd, ↓reduceIte, reduceCtorEq, Nat.reduceSub, Int.reduceToNat, Int.reducePow, Nat.reducePow, Int.reduceLE, Int.reduceLT, Nat.reduceLeDiff, Nat.reduceLT, Int.reduceBEq, Int.reduceBNe, Int.reduceEq, Int.reduceNe, Int.reduceAdd, Int.reduceSub, Int.reduceMul, Int.reduceNeg, Int.reduceTDiv, Int.reduceTMod, Int.reduceMod, Int.reduceDiv, Nat.reduceMul, forall_const, implies_true, d_val_Text, s_RightV_at, s_cells_at, s_cell1_at, s_cell2_at, s_cell3_at, s_Join_at, eEns, eIls, eImg, ePrt, ePrts, eREns, eRTy, eRows, eSs, eTy, eY, sls_len, ils_len, ils_rowsT, sls_rowsT, sls_tk0, ils_tk0, s_RightTy_at, s_CellsTy_at, er, hclo , hcondQ]) | (simp (disch := omega) only [i64_id, u64_id, u8_id, getD_map'])))) | ((with_reducible refine And.intro ?_ ?_); · first | trivial | omega | (simp; done) | (simp; omega)) | ((first | ((with_reducible refine dwp_condI (t := ?_) ?_ (fun hcQ => ?_) (fun hcQ => ?_)); rotate_left; · rfl) | ((with_reducible refine dops_guardI (t := ?_) ?_ (fun hcQ => ?_) (fun hcQ => ?_)); rotate_left; · rfl)) <;> (have hn := hcQ; have hcondQ := hcQ) <;> (try simp only [decide_eq_true_eq, decide_eq_false_iff_not, beq_iff_eq, bne_iff_ne, ne_eq, Bool.and_eq_true, Bool.or_eq_true, Bool.not_eq_true, Bool.not_eq_false, beq_eq_false_iff_ne, bne_eq_false_iff_eq, Bool.not_eq_true', Bool.not_eq_false', Int.ofNat_lt, Int.ofNat_le, Bool.or_eq_false_iff, Bool.and_eq_false_imp, Decidable.not_not, gt_iff_lt, ge_iff_le] at hn) <;> (try (exfalso; omega)) <;> (refine Todo.of ?_)) | (((with_reducible refine dwp_condA ?_ ?_ ?_); · rfl) <;> (refine Todo.of ?_)))) <;> (try (first | (with_reducible rfl) | exact Nat.le_refl _ | exact Int.le_refl _ | assumption | omega))
    refine dwp_each v (fun (k : Nat) (_ : Unit) => ⟨[(4, .ref (cTy t)), (7, .own 0 k 0 k), (8, .clo 37 []), (20, .sl (ils v)), (21, .int .i64 v.length), (22, .int .i64 k)], [⟨.imm, 1, sls ((v.take k).map (cellT l t))⟩]⟩) (fun _ _ _ => True) () (Nat.zero_le _) (by simp only [cut_some, cut_none, List.map_cons, List.map_nil, get_cons, Nk.get_nil, Nat.reduceEqDiff, ↓reduceIte, Nat.succ_ne_self, DV.cut, DV.inB, DObj.cut, List.take_nil, List.take_zero, if_true, Nat.zero_ne_one, Nat.one_ne_zero, DV.inBL, Bool.and_true, Bool.true_and, reduceCtorEq, Nat.zero_lt_one, decide_true, decide_false, Nat.reduceLT, List.take_succ_cons, Int.natCast_add, Int.natCast_one, List.length_append, List.length_cons, List.length_nil, Nat.zero_add, sls, List.take_zero, List.map_nil] <;> rfl) trivial (fun k x rr _ d hx hd _ => ?_) fun k _ hk _ => ?_
    · have w : IntKind.i64.wrap ((k : Int) + 1) = ((k + 1 : Nat) : Int) := by rw [wrap_i64_id (by omega)]; omega
      have k0 : (0 : Int) ≤ k := Int.natCast_nonneg k
      have hxm := List.mem_of_getElem? hx
      have hone := r3 x hxm
      have ec := s_cell3_at x
      have ecx : cellT l t x = Lib.itoa x := by simp only [cellT, if_neg k2, if_neg k3]
      rw [← ecx, eq_true (h.n x hxm)] at ec
      have htk : sls ((v.take k).map (cellT l t)) ++ [[.str (cellT l t x)]] = sls ((v.take (k + 1)).map (cellT l t)) := by
        rw [sls_snoc, List.take_add_one, hx]; simp
      (have hcondQ := Bool.and_self; refine Todo.of ?_); (repeat' (first | ((with_reducible refine Todo.to ?_); (repeat (first | (simp only [↓rP, rT, rU, eI, eU, eB, eS, eBs, eL, eA, buildCells, sepsD, sepB, hdl, dvalX, DOp.kind, dval, frameFrom, dBin, dInt, dStr, dBeq, dUn, dLoad, cellsAt, retV, retL, DR.val, fzT, fzVs, fzV, fz1, DV.immB, IntKind.bits, dCallP, viewVs, viewV, view1, capVL, capV, viewL, noMemV, noMem, elemsOf, dAppend, dAppz, dStore, DV.one, alive, freezeAt, fzLL, fzL, bRow, bU, cellsOf, setFrom, DV.isU, lenMax, lenCap, Nat.reduceEqDiff, Nat.reduceAdd, ↓reduceIte, reduceCtorEq, Nat.reduceSub, Int.reduceToNat, Int.reducePow, Nat.reducePow, Int.reduceLE, Int.reduceLT, Nat.reduceLeDiff, Nat.reduceLT, Int.reduceBEq, Int.reduceBNe, Int.reduceEq, Int.reduceNe, Int.reduceAdd, Int.reduceSub, Int.reduceMul, Int.reduceNeg, Int.reduceTDiv, Int.reduceTMod, Int.reduceMod, Int.reduceDiv, Nat.reduceMul, forall_const, implies_true, d_val_Text, s_RightV_at, s_cells_at, s_cell1_at, s_cell2_at, s_cell3_at, s_Join_at, eEns, eIls, eImg, ePrt, ePrts, eREns, eRTy, eRows, eSs, eTy, eY, sls_len, ils_len, ils_rowsT, sls_rowsT, sls_tk0, ils_tk0, s_RightTy_at, s_CellsTy_at, d, k0, ils_at hx, w, ec, htk, sls_len, List.length_map, List.length_take , hcondQ]) | (simp (disch := omega) only [i64_id, u64_id, u8_id, getD_map'])))) | ((with_reducible refine And.intro ?_ ?_); · first | trivial | omega | (simp; done) | (simp; omega)) | ((first | ((with_reducible refine dwp_condI (t := ?_) ?_ (fun hcQ => ?_) (fun hcQ => ?_)); rotate_left; · rfl) | ((with_reducible refine dops_guardI (t := ?_) ?_ (fun hcQ => ?_) (fun hcQ => ?_)); rotate_left; · rfl)) <;> (have hn := hcQ; have hcondQ := hcQ) <;> (try simp only [decide_eq_true_eq, decide_eq_false_iff_not, beq_iff_eq, bne_iff_ne, ne_eq, Bool.and_eq_true, Bool.or_eq_true, Bool.not_eq_true, Bool.not_eq_false, beq_eq_false_iff_ne, bne_eq_false_iff_eq, Bool.not_eq_true', Bool.not_eq_false', Int.ofNat_lt, Int.ofNat_le, Bool.or_eq_false_iff, Bool.and_eq_false_imp, Decidable.not_not, gt_iff_lt, ge_iff_le] at hn) <;> (try (exfalso; omega)) <;> (refine Todo.of ?_)) | (((with_reducible refine dwp_condA ?_ ?_ ?_); · rfl) <;> (refine Todo.of ?_)))) <;> (try (first | (with_reducible rfl) | exact Nat.le_refl _ | exact Int.le_refl _ | assumption | omega))
      all_goals first | omega | exact ⟨(), trivial⟩ | exact ⟨(), by simp only [cut_some, cut_none, List.map_cons, List.map_nil, get_cons, Nk.get_nil, Nat.reduceEqDiff, ↓reduceIte, Nat.succ_ne_self, DV.cut, DV.inB, DObj.cut, List.take_nil, List.take_zero, if_true, Nat.zero_ne_one, Nat.one_ne_zero, DV.inBL, Bool.and_true, Bool.true_and, reduceCtorEq, Nat.zero_lt_one, decide_true, decide_false, Nat.reduceLT, List.take_succ_cons, Int.natCast_add, Int.natCast_one, List.length_append, List.length_cons, List.length_nil, Nat.zero_add] <;> rfl⟩
    · subst hk
      have d2 : ¬ v.length < v.length := by omega
      have htk2 : (sls (v.map (cellT l t))).take v.length = sls (v.map (cellT l t)) := List.take_of_length_le (by rw [sls_len, List.length_map]; omega)
      have hf : (v.take v.length).map (cellT l t) = v.map (cellT l t) := by rw [List.take_of_length_le (Nat.le_refl _)]
      rw [hf]
      by_cases n0 : 0 < t.n
      · rw [if_pos n0]
        (have hcondQ := Bool.and_self; refine Todo.of ?_); (repeat' (first | ((with_reducible refine Todo.to ?_); (repeat (first | (simp only [↓rP, rT, rU, eI, eU, eB, eS, eBs, eL, eA, buildCells, sepsD, sepB, hdl, dvalX, DOp.kind, dval, frameFrom, dBin, dInt, dStr, dBeq, dUn, dLoad, cellsAt, retV, retL, DR.val, fzT, fzVs, fzV, fz1, DV.immB, IntKind.bits, dCallP, viewVs, viewV, view1, capVL, capV, viewL, noMemV, noMem, elemsOf, dAppend, dAppz, dStore, DV.one, alive, freezeAt, fzLL, fzL, bRow, bU, cellsOf, setFrom, DV.isU, lenMax, lenCap, Nat.reduceEqDiff, Nat.reduceAdd, ↓reduceIte, reduceCtorEq, Nat.reduceSub, Int.reduceToNat, Int.reducePow, Nat.reducePow, Int.reduceLE, Int.reduceLT, Nat.reduceLeDiff, Nat.reduceLT, Int.reduceBEq, Int.reduceBNe, Int.reduceEq, Int.reduceNe, Int.reduceAdd, Int.reduceSub, Int.reduceMul, Int.reduceNeg, Int.reduceTDiv, Int.reduceTMod, Int.reduceMod, Int.reduceDiv, Nat.reduceMul, forall_const, implies_true, d_val_Text, s_RightV_at, s_cells_at, s_cell1_at, s_cell2_at, s_cell3_at, s_Join_at, eEns, eIls, eImg, ePrt, ePrts, eREns, eRTy, eRows, eSs, eTy, eY, sls_len, ils_len, ils_rowsT, sls_rowsT, sls_tk0, ils_tk0, s_RightTy_at, s_CellsTy_at, d2, ej, htk2, n0, bodyT, strMax, List.length_map, List.length_append, sls_len , hcondQ]) | (simp (disch := omega) only [i64_id, u64_id, u8_id, getD_map'])))) | ((with_reducible refine And.intro ?_ ?_); · first | trivial | omega | (simp; done) | (simp; omega)) | ((first | ((with_reducible refine dwp_condI (t := ?_) ?_ (fun hcQ => ?_) (fun hcQ => ?_)); rotate_left; · rfl) | ((with_reducible refine dops_guardI (t := ?_) ?_ (fun hcQ => ?_) (fun hcQ => ?_)); rotate_left; · rfl)) <;> (have hn := hcQ; have hcondQ := hcQ) <;> (try simp only [decide_eq_true_eq, decide_eq_false_iff_not, beq_iff_eq, bne_iff_ne, ne_eq, Bool.and_eq_true, Bool.or_eq_true, Bool.not_eq_true, Bool.not_eq_false, beq_eq_false_iff_ne, bne_eq_false_iff_eq, Bool.not_eq_true', Bool.not_eq_false', Int.ofNat_lt, Int.ofNat_le, Bool.or_eq_false_iff, Bool.and_eq_false_imp, Decidable.not_not, gt_iff_lt, ge_iff_le] at hn) <;> (try (exfalso; omega)) <;> (refine Todo.of ?_)) | (((with_reducible refine dwp_condA ?_ ?_ ?_); · rfl) <;> (refine Todo.of ?_)))) <;> (try (first | (with_reducible rfl) | exact Nat.le_refl _ | exact Int.le_refl _ | assumption | omega))
      · rw [if_neg n0]
        (have hcondQ := Bool.and_self; refine Todo.of ?_); (repeat' (first | ((with_reducible refine Todo.to ?_); (repeat (first | (simp only [↓rP, rT, rU, eI, eU, eB, eS, eBs, eL, eA, buildCells, sepsD, sepB, hdl, dvalX, DOp.kind, dval, frameFrom, dBin, dInt, dStr, dBeq, dUn, dLoad, cellsAt, retV, retL, DR.val, fzT, fzVs, fzV, fz1, DV.immB, IntKind.bits, dCallP, viewVs, viewV, view1, capVL, capV, viewL, noMemV, noMem, elemsOf, dAppend, dAppz, dStore, DV.one, alive, freezeAt, fzLL, fzL, bRow, bU, cellsOf, setFrom, DV.isU, lenMax, lenCap, Nat.reduceEqDiff, Nat.reduceAdd, ↓reduceIte, reduceCtorEq, Nat.reduceSub, Int.reduceToNat, Int.reducePow, Nat.reducePow, Int.reduceLE, Int.reduceLT, Nat.reduceLeDiff, Nat.reduceLT, Int.reduceBEq, Int.reduceBNe, Int.reduceEq, Int.reduceNe, Int.reduceAdd, Int.reduceSub, Int.reduceMul, Int.reduceNeg, Int.reduceTDiv, Int.reduceTMod, Int.reduceMod, Int.reduceDiv, Nat.reduceMul, forall_const, implies_true, d_val_Text, s_RightV_at, s_cells_at, s_cell1_at, s_cell2_at, s_cell3_at, s_Join_at, eEns, eIls, eImg, ePrt, ePrts, eREns, eRTy, eRows, eSs, eTy, eY, sls_len, ils_len, ils_rowsT, sls_rowsT, sls_tk0, ils_tk0, s_RightTy_at, s_CellsTy_at, d2, ej, htk2, n0, bodyT, List.length_map, sls_len , hcondQ]) | (simp (disch := omega) only [i64_id, u64_id, u8_id, getD_map'])))) | ((with_reducible refine And.intro ?_ ?_); · first | trivial | omega | (simp; done) | (simp; omega)) | ((first | ((with_reducible refine dwp_condI (t := ?_) ?_ (fun hcQ => ?_) (fun hcQ => ?_)); rotate_left; · rfl) | ((with_reducible refine dops_guardI (t := ?_) ?_ (fun hcQ => ?_) (fun hcQ => ?_)); rotate_left; · rfl)) <;> (have hn := hcQ; have hcondQ := hcQ) <;> (try simp only [decide_eq_true_eq, decide_eq_false_iff_not, beq_iff_eq, bne_iff_ne, ne_eq, Bool.and_eq_true, Bool.or_eq_true, Bool.not_eq_true, Bool.not_eq_false, beq_eq_false_iff_ne, bne_eq_false_iff_eq, Bool.not_eq_true', Bool.not_eq_false', Int.ofNat_lt, Int.ofNat_le, Bool.or_eq_false_iff, Bool.and_eq_false_imp, Decidable.not_not, gt_iff_lt, ge_iff_le] at hn) <;> (try (exfalso; omega)) <;> (refine Todo.of ?_)) | (((with_reducible refine dwp_condA ?_ ?_ ?_); · rfl) <;> (refine Todo.of ?_)))) <;> (try (first | (with_reducible rfl) | exact Nat.le_refl _ | exact Int.le_refl _ | assumption | omega))
end Go.Proofs.YtaoabkpfidbogaaDoor

/- Values' texts: the document's; the laws. -/
set_option linter.all false
set_option maxRecDepth 20000
namespace Go.Proofs.YtaoabkpfidbogaaDoor
open Go.Nk

noncomputable def s_cellR : List DV → Prop × DV := spec3 eEns eTy eI fun l t n => (oneF l t n = true ∧ okI64 n, .str (cellT l t n))
theorem s_cellR_at (l : List En) (t : Ty) (n : Int) : s_cellR [.sl (l.map cEn), .agg (cTy t), .int .i64 n] = (oneF l t n = true ∧ okI64 n, .str (cellT l t n)) := spec3_at inj_Ens inj_Ty inj_I _ l t n
theorem ok_noriaref06_cell : OkP Tryd.prog 24 s_cellR := by
  refine OkP.mk3 (ps := [(42, s_Digits)]) (hs := []) ⟨ok_noriaref06_Digits, trivial⟩ trivial m_noriaref06_cell fun l t n h => ?_
  try dsimp only at h
  obtain ⟨h1, h2⟩ := h
  by_cases k2 : t.k = 2
  · rcases one_bool h1 k2 with rfl | rfl
    · (have hcondQ := Bool.and_self; refine Todo.of ?_); (repeat' (first | ((with_reducible refine Todo.to ?_); (repeat (first | (simp only [↓rP, rT, rU, eI, eU, eB, eS, eBs, eL, eA, buildCells, sepsD, sepB, hdl, dvalX, DOp.kind, dval, frameFrom, dBin, dInt, dStr, dBeq, dUn, dLoad, cellsAt, retV, retL, DR.val, fzT, fzVs, fzV, fz1, DV.immB, IntKind.bits, dCallP, viewVs, viewV, view1, capVL, capV, viewL, noMemV, noMem, elemsOf, dAppend, dAppz, dStore, DV.one, alive, freezeAt, fzLL, fzL, bRow, bU, cellsOf, setFrom, DV.isU, lenMax, lenCap, Nat.reduceEqDiff, Nat.reduceAdd, ↓reduceIte, reduceCtorEq, Nat.reduceSub, Int.reduceToNat, Int.reducePow, Nat.reducePow, Int.reduceLE, Int.reduceLT, Nat.reduceLeDiff, Nat.reduceLT, Int.reduceBEq, Int.reduceBNe, Int.reduceEq, Int.reduceNe, Int.reduceAdd, Int.reduceSub, Int.reduceMul, Int.reduceNeg, Int.reduceTDiv, Int.reduceTMod, Int.reduceMod, Int.reduceDiv, Nat.reduceMul, forall_const, implies_true, d_noriaref06_cell, s_Digits_at, eEns, eIls, eImg, ePrt, ePrts, eREns, eRTy, eRows, eSs, eTy, eU8, eY, sls_len, ils_len, ils_rowsT, sls_rowsT, sls_tk0, ils_tk0, s_RightTy_at, s_CellsTy_at, ofI_p, ofI_h, only_normal, k2, cellT, boolT, tT, tF , hcondQ]) | (simp (disch := omega) only [i64_id, u64_id, u8_id, getD_map'])))) | ((with_reducible refine And.intro ?_ ?_); · first | trivial | omega | (simp; done) | (simp; omega)) | ((first | ((with_reducible refine dwp_condI (t := ?_) ?_ (fun hcQ => ?_) (fun hcQ => ?_)); rotate_left; · rfl) | ((with_reducible refine dops_guardI (t := ?_) ?_ (fun hcQ => ?_) (fun hcQ => ?_)); rotate_left; · rfl)) <;> (have hn := hcQ; have hcondQ := hcQ) <;> (try simp only [decide_eq_true_eq, decide_eq_false_iff_not, beq_iff_eq, bne_iff_ne, ne_eq, Bool.and_eq_true, Bool.or_eq_true, Bool.not_eq_true, Bool.not_eq_false, beq_eq_false_iff_ne, bne_eq_false_iff_eq, Bool.not_eq_true', Bool.not_eq_false', Int.ofNat_lt, Int.ofNat_le, Bool.or_eq_false_iff, Bool.and_eq_false_imp, Decidable.not_not, gt_iff_lt, ge_iff_le] at hn) <;> (try (exfalso; omega)) <;> (refine Todo.of ?_)) | (((with_reducible refine dwp_condA ?_ ?_ ?_); · rfl) <;> (refine Todo.of ?_)))) <;> (try (first | (with_reducible rfl) | exact Nat.le_refl _ | exact Int.le_refl _ | assumption | omega))
    · (have hcondQ := Bool.and_self; refine Todo.of ?_); (repeat' (first | ((with_reducible refine Todo.to ?_); (repeat (first | (simp only [↓rP, rT, rU, eI, eU, eB, eS, eBs, eL, eA, buildCells, sepsD, sepB, hdl, dvalX, DOp.kind, dval, frameFrom, dBin, dInt, dStr, dBeq, dUn, dLoad, cellsAt, retV, retL, DR.val, fzT, fzVs, fzV, fz1, DV.immB, IntKind.bits, dCallP, viewVs, viewV, view1, capVL, capV, viewL, noMemV, noMem, elemsOf, dAppend, dAppz, dStore, DV.one, alive, freezeAt, fzLL, fzL, bRow, bU, cellsOf, setFrom, DV.isU, lenMax, lenCap, Nat.reduceEqDiff, Nat.reduceAdd, ↓reduceIte, reduceCtorEq, Nat.reduceSub, Int.reduceToNat, Int.reducePow, Nat.reducePow, Int.reduceLE, Int.reduceLT, Nat.reduceLeDiff, Nat.reduceLT, Int.reduceBEq, Int.reduceBNe, Int.reduceEq, Int.reduceNe, Int.reduceAdd, Int.reduceSub, Int.reduceMul, Int.reduceNeg, Int.reduceTDiv, Int.reduceTMod, Int.reduceMod, Int.reduceDiv, Nat.reduceMul, forall_const, implies_true, d_noriaref06_cell, s_Digits_at, eEns, eIls, eImg, ePrt, ePrts, eREns, eRTy, eRows, eSs, eTy, eU8, eY, sls_len, ils_len, ils_rowsT, sls_rowsT, sls_tk0, ils_tk0, s_RightTy_at, s_CellsTy_at, ofI_p, ofI_h, only_normal, k2, cellT, boolT, tT, tF , hcondQ]) | (simp (disch := omega) only [i64_id, u64_id, u8_id, getD_map'])))) | ((with_reducible refine And.intro ?_ ?_); · first | trivial | omega | (simp; done) | (simp; omega)) | ((first | ((with_reducible refine dwp_condI (t := ?_) ?_ (fun hcQ => ?_) (fun hcQ => ?_)); rotate_left; · rfl) | ((with_reducible refine dops_guardI (t := ?_) ?_ (fun hcQ => ?_) (fun hcQ => ?_)); rotate_left; · rfl)) <;> (have hn := hcQ; have hcondQ := hcQ) <;> (try simp only [decide_eq_true_eq, decide_eq_false_iff_not, beq_iff_eq, bne_iff_ne, ne_eq, Bool.and_eq_true, Bool.or_eq_true, Bool.not_eq_true, Bool.not_eq_false, beq_eq_false_iff_ne, bne_eq_false_iff_eq, Bool.not_eq_true', Bool.not_eq_false', Int.ofNat_lt, Int.ofNat_le, Bool.or_eq_false_iff, Bool.and_eq_false_imp, Decidable.not_not, gt_iff_lt, ge_iff_le] at hn) <;> (try (exfalso; omega)) <;> (refine Todo.of ?_)) | (((with_reducible refine dwp_condA ?_ ?_ ?_); · rfl) <;> (refine Todo.of ?_)))) <;> (try (first | (with_reducible rfl) | exact Nat.le_refl _ | exact Int.le_refl _ | assumption | omega))
  by_cases k3 : t.k = 3
  · obtain ⟨c1, c2⟩ := one_ct h1 k3
    have r : rightTy l t = true := by simp only [oneF, Bool.and_eq_true] at h1; exact h1.1
    obtain ⟨i, ei, hi⟩ := enum_at r k3
    have hrow := en_getD hi
    obtain ⟨m, rfl⟩ : ∃ m : Nat, n = m := ⟨n.toNat, by omega⟩
    simp only [ctAt, ei, Int.toNat_natCast] at c2
    have hm : m < (l.getD i default).ct.length := by omega
    have e2 := sls_getD hm
    have ec : cellT l t (m : Int) = (l.getD i default).ct.getD m [] := by simp only [cellT, if_neg k2, if_pos k3, ctAt, ei, Int.toNat_natCast]
    rw [ec]
    (have hcondQ := Bool.and_self; refine Todo.of ?_); (repeat' (first | ((with_reducible refine Todo.to ?_); (repeat (first | (simp only [↓rP, rT, rU, eI, eU, eB, eS, eBs, eL, eA, buildCells, sepsD, sepB, hdl, dvalX, DOp.kind, dval, frameFrom, dBin, dInt, dStr, dBeq, dUn, dLoad, cellsAt, retV, retL, DR.val, fzT, fzVs, fzV, fz1, DV.immB, IntKind.bits, dCallP, viewVs, viewV, view1, capVL, capV, viewL, noMemV, noMem, elemsOf, dAppend, dAppz, dStore, DV.one, alive, freezeAt, fzLL, fzL, bRow, bU, cellsOf, setFrom, DV.isU, lenMax, lenCap, Nat.reduceEqDiff, Nat.reduceAdd, ↓reduceIte, reduceCtorEq, Nat.reduceSub, Int.reduceToNat, Int.reducePow, Nat.reducePow, Int.reduceLE, Int.reduceLT, Nat.reduceLeDiff, Nat.reduceLT, Int.reduceBEq, Int.reduceBNe, Int.reduceEq, Int.reduceNe, Int.reduceAdd, Int.reduceSub, Int.reduceMul, Int.reduceNeg, Int.reduceTDiv, Int.reduceTMod, Int.reduceMod, Int.reduceDiv, Nat.reduceMul, forall_const, implies_true, d_noriaref06_cell, s_Digits_at, eEns, eIls, eImg, ePrt, ePrts, eREns, eRTy, eRows, eSs, eTy, eU8, eY, sls_len, ils_len, ils_rowsT, sls_rowsT, sls_tk0, ils_tk0, s_RightTy_at, s_CellsTy_at, ofI_p, ofI_h, only_normal, k2, k3, ei, hrow, e2, sls_len, List.length_map, hi, hm , hcondQ]) | (simp (disch := omega) only [i64_id, u64_id, u8_id, getD_map'])))) | ((with_reducible refine And.intro ?_ ?_); · first | trivial | omega | (simp; done) | (simp; omega)) | ((first | ((with_reducible refine dwp_condI (t := ?_) ?_ (fun hcQ => ?_) (fun hcQ => ?_)); rotate_left; · rfl) | ((with_reducible refine dops_guardI (t := ?_) ?_ (fun hcQ => ?_) (fun hcQ => ?_)); rotate_left; · rfl)) <;> (have hn := hcQ; have hcondQ := hcQ) <;> (try simp only [decide_eq_true_eq, decide_eq_false_iff_not, beq_iff_eq, bne_iff_ne, ne_eq, Bool.and_eq_true, Bool.or_eq_true, Bool.not_eq_true, Bool.not_eq_false, beq_eq_false_iff_ne, bne_eq_false_iff_eq, Bool.not_eq_true', Bool.not_eq_false', Int.ofNat_lt, Int.ofNat_le, Bool.or_eq_false_iff, Bool.and_eq_false_imp, Decidable.not_not, gt_iff_lt, ge_iff_le] at hn) <;> (try (exfalso; omega)) <;> (refine Todo.of ?_)) | (((with_reducible refine dwp_condA ?_ ?_ ?_); · rfl) <;> (refine Todo.of ?_)))) <;> (try (first | (with_reducible rfl) | exact Nat.le_refl _ | exact Int.le_refl _ | assumption | omega))
  · have ec : cellT l t n = Lib.itoa n := by simp only [cellT, if_neg k2, if_neg k3]
    rw [ec]
    have ed := s_Digits_at n
    rw [eq_true h2] at ed
    (have hcondQ := Bool.and_self; refine Todo.of ?_); (repeat' (first | ((with_reducible refine Todo.to ?_); (repeat (first | (simp only [↓rP, rT, rU, eI, eU, eB, eS, eBs, eL, eA, buildCells, sepsD, sepB, hdl, dvalX, DOp.kind, dval, frameFrom, dBin, dInt, dStr, dBeq, dUn, dLoad, cellsAt, retV, retL, DR.val, fzT, fzVs, fzV, fz1, DV.immB, IntKind.bits, dCallP, viewVs, viewV, view1, capVL, capV, viewL, noMemV, noMem, elemsOf, dAppend, dAppz, dStore, DV.one, alive, freezeAt, fzLL, fzL, bRow, bU, cellsOf, setFrom, DV.isU, lenMax, lenCap, Nat.reduceEqDiff, Nat.reduceAdd, ↓reduceIte, reduceCtorEq, Nat.reduceSub, Int.reduceToNat, Int.reducePow, Nat.reducePow, Int.reduceLE, Int.reduceLT, Nat.reduceLeDiff, Nat.reduceLT, Int.reduceBEq, Int.reduceBNe, Int.reduceEq, Int.reduceNe, Int.reduceAdd, Int.reduceSub, Int.reduceMul, Int.reduceNeg, Int.reduceTDiv, Int.reduceTMod, Int.reduceMod, Int.reduceDiv, Nat.reduceMul, forall_const, implies_true, d_noriaref06_cell, s_Digits_at, eEns, eIls, eImg, ePrt, ePrts, eREns, eRTy, eRows, eSs, eTy, eU8, eY, sls_len, ils_len, ils_rowsT, sls_rowsT, sls_tk0, ils_tk0, s_RightTy_at, s_CellsTy_at, ofI_p, ofI_h, only_normal, k2, k3, ed , hcondQ]) | (simp (disch := omega) only [i64_id, u64_id, u8_id, getD_map'])))) | ((with_reducible refine And.intro ?_ ?_); · first | trivial | omega | (simp; done) | (simp; omega)) | ((first | ((with_reducible refine dwp_condI (t := ?_) ?_ (fun hcQ => ?_) (fun hcQ => ?_)); rotate_left; · rfl) | ((with_reducible refine dops_guardI (t := ?_) ?_ (fun hcQ => ?_) (fun hcQ => ?_)); rotate_left; · rfl)) <;> (have hn := hcQ; have hcondQ := hcQ) <;> (try simp only [decide_eq_true_eq, decide_eq_false_iff_not, beq_iff_eq, bne_iff_ne, ne_eq, Bool.and_eq_true, Bool.or_eq_true, Bool.not_eq_true, Bool.not_eq_false, beq_eq_false_iff_ne, bne_eq_false_iff_eq, Bool.not_eq_true', Bool.not_eq_false', Int.ofNat_lt, Int.ofNat_le, Bool.or_eq_false_iff, Bool.and_eq_false_imp, Decidable.not_not, gt_iff_lt, ge_iff_le] at hn) <;> (try (exfalso; omega)) <;> (refine Todo.of ?_)) | (((with_reducible refine dwp_condA ?_ ?_ ?_); · rfl) <;> (refine Todo.of ?_)))) <;> (try (first | (with_reducible rfl) | exact Nat.le_refl _ | exact Int.le_refl _ | assumption | omega))
def lhsT (l : List En) (t : Ty) (v : List Int) : List UInt8 := [91] ++ bodyT l t v
theorem lhsT_snoc (l : List En) (t : Ty) (v : List Int) (x : Int) : lhsT l t (v ++ [x]) = if v = [] then lhsT l t v ++ cellT l t x else lhsT l t v ++ [44] ++ cellT l t x := by
  unfold lhsT bodyT
  rw [List.map_append, List.map_cons, List.map_nil, join_snoc]
  by_cases h : v = []
  · subst h; simp [Lib.join_nil]
  · rw [if_neg (by simpa using h), if_neg h]; simp
theorem ok_noriaref06_Text : OkP Tryd.prog 9 s_TextV := by
  refine OkP.mk3 (ps := [(17, s_RightV), (24, s_cellR)]) (hs := []) ⟨ok_refRightV, ok_noriaref06_cell, trivial⟩ trivial m_noriaref06_Text fun l t v h => ?_
  try dsimp only at h
  have h : okTx l v := h
  have er := s_RightV_at l t v
  rw [eq_true (show v.length ≤ 1000000000 by have := h.len; omega)] at er
  cases r : rightV l t v
  · rw [r] at er
    have e : textV l t v = [] := by simp [textV, r]
    rw [e]
    (have hcondQ := Bool.and_self; refine Todo.of ?_); (repeat' (first | ((with_reducible refine Todo.to ?_); (repeat (first | (simp only [↓rP, rT, rU, eI, eU, eB, eS, eBs, eL, eA, buildCells, sepsD, sepB, hdl, dvalX, DOp.kind, dval, frameFrom, dBin, dInt, dStr, dBeq, dUn, dLoad, cellsAt, retV, retL, DR.val, fzT, fzVs, fzV, fz1, DV.immB, IntKind.bits, dCallP, viewVs, viewV, view1, capVL, capV, viewL, noMemV, noMem, elemsOf, dAppend, dAppz, dStore, DV.one, alive, freezeAt, fzLL, fzL, bRow, bU, cellsOf, setFrom, DV.isU, lenMax, lenCap, Nat.reduceEqDiff, Nat.reduceAdd, ↓reduceIte, reduceCtorEq, Nat.reduceSub, Int.reduceToNat, Int.reducePow, Nat.reducePow, Int.reduceLE, Int.reduceLT, Nat.reduceLeDiff, Nat.reduceLT, Int.reduceBEq, Int.reduceBNe, Int.reduceEq, Int.reduceNe, Int.reduceAdd, Int.reduceSub, Int.reduceMul, Int.reduceNeg, Int.reduceTDiv, Int.reduceTMod, Int.reduceMod, Int.reduceDiv, Nat.reduceMul, forall_const, implies_true, d_noriaref06_Text, s_RightV_at, s_cellR_at, eEns, eIls, eImg, ePrt, ePrts, eREns, eRTy, eRows, eSs, eTy, eU8, eY, sls_len, ils_len, ils_rowsT, sls_rowsT, sls_tk0, ils_tk0, s_RightTy_at, s_CellsTy_at, ofI_p, ofI_h, only_normal, er , hcondQ]) | (simp (disch := omega) only [i64_id, u64_id, u8_id, getD_map'])))) | ((with_reducible refine And.intro ?_ ?_); · first | trivial | omega | (simp; done) | (simp; omega)) | ((first | ((with_reducible refine dwp_condI (t := ?_) ?_ (fun hcQ => ?_) (fun hcQ => ?_)); rotate_left; · rfl) | ((with_reducible refine dops_guardI (t := ?_) ?_ (fun hcQ => ?_) (fun hcQ => ?_)); rotate_left; · rfl)) <;> (have hn := hcQ; have hcondQ := hcQ) <;> (try simp only [decide_eq_true_eq, decide_eq_false_iff_not, beq_iff_eq, bne_iff_ne, ne_eq, Bool.and_eq_true, Bool.or_eq_true, Bool.not_eq_true, Bool.not_eq_false, beq_eq_false_iff_ne, bne_eq_false_iff_eq, Bool.not_eq_true', Bool.not_eq_false', Int.ofNat_lt, Int.ofNat_le, Bool.or_eq_false_iff, Bool.and_eq_false_imp, Decidable.not_not, gt_iff_lt, ge_iff_le] at hn) <;> (try (exfalso; omega)) <;> (refine Todo.of ?_)) | (((with_reducible refine dwp_condA ?_ ?_ ?_); · rfl) <;> (refine Todo.of ?_)))) <;> (try (first | (with_reducible rfl) | exact Nat.le_refl _ | exact Int.le_refl _ | assumption | omega))
  rw [r] at er
  obtain ⟨r1, r2, r3⟩ := rightV_one r
  have hcl : ∀ x ∈ v.map (cellT l t), x.length ≤ 1000 := fun x hx => by
    obtain ⟨n, hn, rfl⟩ := List.mem_map.1 hx
    exact cellT_len h hn (r3 n hn)
  have hln := h.len
  have etx : textV l t v = if 0 < t.n then [91] ++ bodyT l t v ++ [93] else bodyT l t v := by simp [textV, r]
  have hn9 := (right_b r1).2.2
  by_cases n0 : t.n = 0
  · have hc : cellsTy t = 1 := by unfold cellsTy; rw [if_pos (by omega)]
    have hv : v.length = 1 := by omega
    obtain ⟨x, rfl⟩ := List.length_eq_one_iff.1 hv
    rw [etx, if_neg (by omega)]
    have ec := s_cellR_at l t x
    rw [eq_true (And.intro (r3 x (by simp)) (h.n x (by simp)))] at ec
    have eb : bodyT l t [x] = cellT l t x := by simp [bodyT, Lib.join_one]
    rw [eb]
    simp only [ils, List.map_cons, List.map_nil] at er
    have n0b : (t.n == 0) = true := by simpa using n0
    (have hcondQ := Bool.and_self; refine Todo.of ?_); (repeat' (first | ((with_reducible refine Todo.to ?_); (repeat (first | (simp only [↓rP, rT, rU, eI, eU, eB, eS, eBs, eL, eA, buildCells, sepsD, sepB, hdl, dvalX, DOp.kind, dval, frameFrom, dBin, dInt, dStr, dBeq, dUn, dLoad, cellsAt, retV, retL, DR.val, fzT, fzVs, fzV, fz1, DV.immB, IntKind.bits, dCallP, viewVs, viewV, view1, capVL, capV, viewL, noMemV, noMem, elemsOf, dAppend, dAppz, dStore, DV.one, alive, freezeAt, fzLL, fzL, bRow, bU, cellsOf, setFrom, DV.isU, lenMax, lenCap, Nat.reduceEqDiff, Nat.reduceAdd, ↓reduceIte, reduceCtorEq, Nat.reduceSub, Int.reduceToNat, Int.reducePow, Nat.reducePow, Int.reduceLE, Int.reduceLT, Nat.reduceLeDiff, Nat.reduceLT, Int.reduceBEq, Int.reduceBNe, Int.reduceEq, Int.reduceNe, Int.reduceAdd, Int.reduceSub, Int.reduceMul, Int.reduceNeg, Int.reduceTDiv, Int.reduceTMod, Int.reduceMod, Int.reduceDiv, Nat.reduceMul, forall_const, implies_true, d_noriaref06_Text, s_RightV_at, s_cellR_at, eEns, eIls, eImg, ePrt, ePrts, eREns, eRTy, eRows, eSs, eTy, eU8, eY, sls_len, ils_len, ils_rowsT, sls_rowsT, sls_tk0, ils_tk0, s_RightTy_at, s_CellsTy_at, ofI_p, ofI_h, only_normal, er, n0b, ec, ils , hcondQ]) | (simp (disch := omega) only [i64_id, u64_id, u8_id, getD_map'])))) | ((with_reducible refine And.intro ?_ ?_); · first | trivial | omega | (simp; done) | (simp; omega)) | ((first | ((with_reducible refine dwp_condI (t := ?_) ?_ (fun hcQ => ?_) (fun hcQ => ?_)); rotate_left; · rfl) | ((with_reducible refine dops_guardI (t := ?_) ?_ (fun hcQ => ?_) (fun hcQ => ?_)); rotate_left; · rfl)) <;> (have hn := hcQ; have hcondQ := hcQ) <;> (try simp only [decide_eq_true_eq, decide_eq_false_iff_not, beq_iff_eq, bne_iff_ne, ne_eq, Bool.and_eq_true, Bool.or_eq_true, Bool.not_eq_true, Bool.not_eq_false, beq_eq_false_iff_ne, bne_eq_false_iff_eq, Bool.not_eq_true', Bool.not_eq_false', Int.ofNat_lt, Int.ofNat_le, Bool.or_eq_false_iff, Bool.and_eq_false_imp, Decidable.not_not, gt_iff_lt, ge_iff_le] at hn) <;> (try (exfalso; omega)) <;> (refine Todo.of ?_)) | (((with_reducible refine dwp_condA ?_ ?_ ?_); · rfl) <;> (refine Todo.of ?_)))) <;> (try (first | (with_reducible rfl) | exact Nat.le_refl _ | exact Int.le_refl _ | assumption | omega))
  rw [etx, if_pos (by have := hn9.1; omega)]
  have hlb : ∀ k, (lhsT l t (v.take k)).length ≤ 2000000 := fun k => by
    have := join_le ((v.take k).map (cellT l t)) (fun x hx => hcl x (List.map_subset _ (List.take_subset _ _) hx))
    simp only [lhsT, bodyT, List.length_append, List.length_cons, List.length_nil] at this ⊢
    rw [List.length_map, List.length_take] at this
    omega
  have n0b : (t.n == 0) = false := by simpa using n0
  (have hcondQ := Bool.and_self; refine Todo.of ?_); (repeat' (first | ((with_reducible refine Todo.to ?_); (repeat (first | (simp only [↓rP, rT, rU, eI, eU, eB, eS, eBs, eL, eA, buildCells, sepsD, sepB, hdl, dvalX, DOp.kind, dval, frameFrom, dBin, dInt, dStr, dBeq, dUn, dLoad, cellsAt, retV, retL, DR.val, fzT, fzVs, fzV, fz1, DV.immB, IntKind.bits, dCallP, viewVs, viewV, view1, capVL, capV, viewL, noMemV, noMem, elemsOf, dAppend, dAppz, dStore, DV.one, alive, freezeAt, fzLL, fzL, bRow, bU, cellsOf, setFrom, DV.isU, lenMax, lenCap, Nat.reduceEqDiff, Nat.reduceAdd, ↓reduceIte, reduceCtorEq, Nat.reduceSub, Int.reduceToNat, Int.reducePow, Nat.reducePow, Int.reduceLE, Int.reduceLT, Nat.reduceLeDiff, Nat.reduceLT, Int.reduceBEq, Int.reduceBNe, Int.reduceEq, Int.reduceNe, Int.reduceAdd, Int.reduceSub, Int.reduceMul, Int.reduceNeg, Int.reduceTDiv, Int.reduceTMod, Int.reduceMod, Int.reduceDiv, Nat.reduceMul, forall_const, implies_true, d_noriaref06_Text, s_RightV_at, s_cellR_at, eEns, eIls, eImg, ePrt, ePrts, eREns, eRTy, eRows, eSs, eTy, eU8, eY, sls_len, ils_len, ils_rowsT, sls_rowsT, sls_tk0, ils_tk0, s_RightTy_at, s_CellsTy_at, ofI_p, ofI_h, only_normal, er, n0b , hcondQ]) | (simp (disch := omega) only [i64_id, u64_id, u8_id, getD_map'])))) | ((with_reducible refine And.intro ?_ ?_); · first | trivial | omega | (simp; done) | (simp; omega)) | ((first | ((with_reducible refine dwp_condI (t := ?_) ?_ (fun hcQ => ?_) (fun hcQ => ?_)); rotate_left; · rfl) | ((with_reducible refine dops_guardI (t := ?_) ?_ (fun hcQ => ?_) (fun hcQ => ?_)); rotate_left; · rfl)) <;> (have hn := hcQ; have hcondQ := hcQ) <;> (try simp only [decide_eq_true_eq, decide_eq_false_iff_not, beq_iff_eq, bne_iff_ne, ne_eq, Bool.and_eq_true, Bool.or_eq_true, Bool.not_eq_true, Bool.not_eq_false, beq_eq_false_iff_ne, bne_eq_false_iff_eq, Bool.not_eq_true', Bool.not_eq_false', Int.ofNat_lt, Int.ofNat_le, Bool.or_eq_false_iff, Bool.and_eq_false_imp, Decidable.not_not, gt_iff_lt, ge_iff_le] at hn) <;> (try (exfalso; omega)) <;> (refine Todo.of ?_)) | (((with_reducible refine dwp_condA ?_ ?_ ?_); · rfl) <;> (refine Todo.of ?_)))) <;> (try (first | (with_reducible rfl) | exact Nat.le_refl _ | exact Int.le_refl _ | assumption | omega))
  refine dwp_each v (fun (k : Nat) (_ : Unit) => ⟨[(0, .sl (l.map cEn)), (2, .sl (ils v)), (4, .ref (cTy t)), (7, .str (lhsT l t (v.take k))), (8, .int .i64 k)], []⟩) (fun _ _ _ => True) () (Nat.zero_le _) (by simp only [cut_some, cut_none, List.map_cons, List.map_nil, get_cons, Nk.get_nil, Nat.reduceEqDiff, ↓reduceIte, Nat.succ_ne_self, DV.cut, DV.inB, DObj.cut, List.take_nil, List.take_zero, if_true, Nat.zero_ne_one, Nat.one_ne_zero, DV.inBL, Bool.and_true, Bool.true_and, reduceCtorEq, Nat.zero_lt_one, decide_true, decide_false, Nat.reduceLT, List.take_succ_cons, Int.natCast_add, Int.natCast_one, List.length_append, List.length_cons, List.length_nil, Nat.zero_add] <;> rfl) trivial (fun k x rr _ d hx hd _ => ?_) fun k _ hk _ => ?_
  · have w : IntKind.i64.wrap ((k : Int) + 1) = ((k + 1 : Nat) : Int) := by rw [wrap_i64_id (by omega)]; omega
    have k0 : (0 : Int) ≤ k := Int.natCast_nonneg k
    have hxm := List.mem_of_getElem? hx
    have ec := s_cellR_at l t x
    rw [eq_true (And.intro (r3 x hxm) (h.n x hxm))] at ec
    have hb1 := hlb k
    have hb2 := cellT_len h hxm (r3 x hxm)
    have htk : v.take (k + 1) = v.take k ++ [x] := by rw [List.take_add_one, hx]; rfl
    have hsn := lhsT_snoc l t (v.take k) x
    rw [← htk] at hsn
    by_cases kz : k = 0
    · subst kz
      rw [List.take_zero, if_pos rfl] at hsn
      rw [List.take_zero] at hb1
      (have hcondQ := Bool.and_self; refine Todo.of ?_); (repeat' (first | ((with_reducible refine Todo.to ?_); (repeat (first | (simp only [↓rP, rT, rU, eI, eU, eB, eS, eBs, eL, eA, buildCells, sepsD, sepB, hdl, dvalX, DOp.kind, dval, frameFrom, dBin, dInt, dStr, dBeq, dUn, dLoad, cellsAt, retV, retL, DR.val, fzT, fzVs, fzV, fz1, DV.immB, IntKind.bits, dCallP, viewVs, viewV, view1, capVL, capV, viewL, noMemV, noMem, elemsOf, dAppend, dAppz, dStore, DV.one, alive, freezeAt, fzLL, fzL, bRow, bU, cellsOf, setFrom, DV.isU, lenMax, lenCap, Nat.reduceEqDiff, Nat.reduceAdd, ↓reduceIte, reduceCtorEq, Nat.reduceSub, Int.reduceToNat, Int.reducePow, Nat.reducePow, Int.reduceLE, Int.reduceLT, Nat.reduceLeDiff, Nat.reduceLT, Int.reduceBEq, Int.reduceBNe, Int.reduceEq, Int.reduceNe, Int.reduceAdd, Int.reduceSub, Int.reduceMul, Int.reduceNeg, Int.reduceTDiv, Int.reduceTMod, Int.reduceMod, Int.reduceDiv, Nat.reduceMul, forall_const, implies_true, d_noriaref06_Text, s_RightV_at, s_cellR_at, eEns, eIls, eImg, ePrt, ePrts, eREns, eRTy, eRows, eSs, eTy, eU8, eY, sls_len, ils_len, ils_rowsT, sls_rowsT, sls_tk0, ils_tk0, s_RightTy_at, s_CellsTy_at, ofI_p, ofI_h, only_normal, d, ils_at hx, w, ec, strMax, ils_len , hcondQ]) | (simp (disch := omega) only [i64_id, u64_id, u8_id, getD_map'])))) | ((with_reducible refine And.intro ?_ ?_); · first | trivial | omega | (simp; done) | (simp; omega)) | ((first | ((with_reducible refine dwp_condI (t := ?_) ?_ (fun hcQ => ?_) (fun hcQ => ?_)); rotate_left; · rfl) | ((with_reducible refine dops_guardI (t := ?_) ?_ (fun hcQ => ?_) (fun hcQ => ?_)); rotate_left; · rfl)) <;> (have hn := hcQ; have hcondQ := hcQ) <;> (try simp only [decide_eq_true_eq, decide_eq_false_iff_not, beq_iff_eq, bne_iff_ne, ne_eq, Bool.and_eq_true, Bool.or_eq_true, Bool.not_eq_true, Bool.not_eq_false, beq_eq_false_iff_ne, bne_eq_false_iff_eq, Bool.not_eq_true', Bool.not_eq_false', Int.ofNat_lt, Int.ofNat_le, Bool.or_eq_false_iff, Bool.and_eq_false_imp, Decidable.not_not, gt_iff_lt, ge_iff_le] at hn) <;> (try (exfalso; omega)) <;> (refine Todo.of ?_)) | (((with_reducible refine dwp_condA ?_ ?_ ?_); · rfl) <;> (refine Todo.of ?_)))) <;> (try (first | (with_reducible rfl) | exact Nat.le_refl _ | exact Int.le_refl _ | assumption | omega))
      all_goals first | omega | exact ⟨(), trivial⟩ | exact ⟨(), by simp only [cut_some, cut_none, List.map_cons, List.map_nil, get_cons, Nk.get_nil, Nat.reduceEqDiff, ↓reduceIte, Nat.succ_ne_self, DV.cut, DV.inB, DObj.cut, List.take_nil, List.take_zero, if_true, Nat.zero_ne_one, Nat.one_ne_zero, DV.inBL, Bool.and_true, Bool.true_and, reduceCtorEq, Nat.zero_lt_one, decide_true, decide_false, Nat.reduceLT, List.take_succ_cons, Int.natCast_add, Int.natCast_one, List.length_append, List.length_cons, List.length_nil, Nat.zero_add, hsn] <;> rfl⟩
    · have kp : (0 : Int) < k := by omega
      rw [if_neg (by rw [← List.length_eq_zero_iff, List.length_take]; omega)] at hsn
      (have hcondQ := Bool.and_self; refine Todo.of ?_); (repeat' (first | ((with_reducible refine Todo.to ?_); (repeat (first | (simp only [↓rP, rT, rU, eI, eU, eB, eS, eBs, eL, eA, buildCells, sepsD, sepB, hdl, dvalX, DOp.kind, dval, frameFrom, dBin, dInt, dStr, dBeq, dUn, dLoad, cellsAt, retV, retL, DR.val, fzT, fzVs, fzV, fz1, DV.immB, IntKind.bits, dCallP, viewVs, viewV, view1, capVL, capV, viewL, noMemV, noMem, elemsOf, dAppend, dAppz, dStore, DV.one, alive, freezeAt, fzLL, fzL, bRow, bU, cellsOf, setFrom, DV.isU, lenMax, lenCap, Nat.reduceEqDiff, Nat.reduceAdd, ↓reduceIte, reduceCtorEq, Nat.reduceSub, Int.reduceToNat, Int.reducePow, Nat.reducePow, Int.reduceLE, Int.reduceLT, Nat.reduceLeDiff, Nat.reduceLT, Int.reduceBEq, Int.reduceBNe, Int.reduceEq, Int.reduceNe, Int.reduceAdd, Int.reduceSub, Int.reduceMul, Int.reduceNeg, Int.reduceTDiv, Int.reduceTMod, Int.reduceMod, Int.reduceDiv, Nat.reduceMul, forall_const, implies_true, d_noriaref06_Text, s_RightV_at, s_cellR_at, eEns, eIls, eImg, ePrt, ePrts, eREns, eRTy, eRows, eSs, eTy, eU8, eY, sls_len, ils_len, ils_rowsT, sls_rowsT, sls_tk0, ils_tk0, s_RightTy_at, s_CellsTy_at, ofI_p, ofI_h, only_normal, d, k0, kp, ils_at hx, w, ec, strMax, List.length_append, List.length_cons, List.length_nil, ils_len , hcondQ]) | (simp (disch := omega) only [i64_id, u64_id, u8_id, getD_map'])))) | ((with_reducible refine And.intro ?_ ?_); · first | trivial | omega | (simp; done) | (simp; omega)) | ((first | ((with_reducible refine dwp_condI (t := ?_) ?_ (fun hcQ => ?_) (fun hcQ => ?_)); rotate_left; · rfl) | ((with_reducible refine dops_guardI (t := ?_) ?_ (fun hcQ => ?_) (fun hcQ => ?_)); rotate_left; · rfl)) <;> (have hn := hcQ; have hcondQ := hcQ) <;> (try simp only [decide_eq_true_eq, decide_eq_false_iff_not, beq_iff_eq, bne_iff_ne, ne_eq, Bool.and_eq_true, Bool.or_eq_true, Bool.not_eq_true, Bool.not_eq_false, beq_eq_false_iff_ne, bne_eq_false_iff_eq, Bool.not_eq_true', Bool.not_eq_false', Int.ofNat_lt, Int.ofNat_le, Bool.or_eq_false_iff, Bool.and_eq_false_imp, Decidable.not_not, gt_iff_lt, ge_iff_le] at hn) <;> (try (exfalso; omega)) <;> (refine Todo.of ?_)) | (((with_reducible refine dwp_condA ?_ ?_ ?_); · rfl) <;> (refine Todo.of ?_)))) <;> (try (first | (with_reducible rfl) | exact Nat.le_refl _ | exact Int.le_refl _ | assumption | omega))
      all_goals first | omega | exact ⟨(), trivial⟩ | exact ⟨(), by simp only [cut_some, cut_none, List.map_cons, List.map_nil, get_cons, Nk.get_nil, Nat.reduceEqDiff, ↓reduceIte, Nat.succ_ne_self, DV.cut, DV.inB, DObj.cut, List.take_nil, List.take_zero, if_true, Nat.zero_ne_one, Nat.one_ne_zero, DV.inBL, Bool.and_true, Bool.true_and, reduceCtorEq, Nat.zero_lt_one, decide_true, decide_false, Nat.reduceLT, List.take_succ_cons, Int.natCast_add, Int.natCast_one, List.length_append, List.length_cons, List.length_nil, Nat.zero_add, hsn] <;> rfl⟩
  · have d2 : ¬ k < v.length := by omega
    have hb1 := hlb k
    have e2 : v.take k = v := List.take_of_length_le (by omega)
    rw [e2] at hb1 ⊢
    have hb3 : (bodyT l t v).length ≤ 2000000 := by simp only [lhsT, List.length_append] at hb1; omega
    (have hcondQ := Bool.and_self; refine Todo.of ?_); (repeat' (first | ((with_reducible refine Todo.to ?_); (repeat (first | (simp only [↓rP, rT, rU, eI, eU, eB, eS, eBs, eL, eA, buildCells, sepsD, sepB, hdl, dvalX, DOp.kind, dval, frameFrom, dBin, dInt, dStr, dBeq, dUn, dLoad, cellsAt, retV, retL, DR.val, fzT, fzVs, fzV, fz1, DV.immB, IntKind.bits, dCallP, viewVs, viewV, view1, capVL, capV, viewL, noMemV, noMem, elemsOf, dAppend, dAppz, dStore, DV.one, alive, freezeAt, fzLL, fzL, bRow, bU, cellsOf, setFrom, DV.isU, lenMax, lenCap, Nat.reduceEqDiff, Nat.reduceAdd, ↓reduceIte, reduceCtorEq, Nat.reduceSub, Int.reduceToNat, Int.reducePow, Nat.reducePow, Int.reduceLE, Int.reduceLT, Nat.reduceLeDiff, Nat.reduceLT, Int.reduceBEq, Int.reduceBNe, Int.reduceEq, Int.reduceNe, Int.reduceAdd, Int.reduceSub, Int.reduceMul, Int.reduceNeg, Int.reduceTDiv, Int.reduceTMod, Int.reduceMod, Int.reduceDiv, Nat.reduceMul, forall_const, implies_true, d_noriaref06_Text, s_RightV_at, s_cellR_at, eEns, eIls, eImg, ePrt, ePrts, eREns, eRTy, eRows, eSs, eTy, eU8, eY, sls_len, ils_len, ils_rowsT, sls_rowsT, sls_tk0, ils_tk0, s_RightTy_at, s_CellsTy_at, ofI_p, ofI_h, only_normal, d2, strMax, lhsT, ils_len, List.length_append, List.length_cons, List.length_nil , hcondQ]) | (simp (disch := omega) only [i64_id, u64_id, u8_id, getD_map'])))) | ((with_reducible refine And.intro ?_ ?_); · first | trivial | omega | (simp; done) | (simp; omega)) | ((first | ((with_reducible refine dwp_condI (t := ?_) ?_ (fun hcQ => ?_) (fun hcQ => ?_)); rotate_left; · rfl) | ((with_reducible refine dops_guardI (t := ?_) ?_ (fun hcQ => ?_) (fun hcQ => ?_)); rotate_left; · rfl)) <;> (have hn := hcQ; have hcondQ := hcQ) <;> (try simp only [decide_eq_true_eq, decide_eq_false_iff_not, beq_iff_eq, bne_iff_ne, ne_eq, Bool.and_eq_true, Bool.or_eq_true, Bool.not_eq_true, Bool.not_eq_false, beq_eq_false_iff_ne, bne_eq_false_iff_eq, Bool.not_eq_true', Bool.not_eq_false', Int.ofNat_lt, Int.ofNat_le, Bool.or_eq_false_iff, Bool.and_eq_false_imp, Decidable.not_not, gt_iff_lt, ge_iff_le] at hn) <;> (try (exfalso; omega)) <;> (refine Todo.of ?_)) | (((with_reducible refine dwp_condA ?_ ?_ ?_); · rfl) <;> (refine Todo.of ?_)))) <;> (try (first | (with_reducible rfl) | exact Nat.le_refl _ | exact Int.le_refl _ | assumption | omega))
end Go.Proofs.YtaoabkpfidbogaaDoor

/- Values that are unlike have unlike texts. -/
set_option linter.all false
set_option maxRecDepth 20000
namespace Go.Proofs.YtaoabkpfidbogaaDoor
open Go.Nk

/-! Numbers by their digits. -/
def valD (l : List UInt8) : Nat := l.foldl (fun a d => a * 10 + (d.toNat - 48)) 0
theorem digit_val {d : Nat} (h : d < 10) : (UInt8.ofNat (48 + d)).toNat = 48 + d := by
  rw [UInt8.toNat_ofNat']; omega
theorem valD_snoc (l : List UInt8) (d : UInt8) : valD (l ++ [d]) = valD l * 10 + (d.toNat - 48) := by simp [valD]
theorem valD_dec : ∀ u : Nat, valD (Lib.decDigits u) = u := by
  intro u
  induction u using Nat.strongRecOn with
  | _ u ih =>
    rw [Lib.decDigits]
    split
    · rename_i h
      have := digit_val h
      show 0 * 10 + ((UInt8.ofNat (48 + u)).toNat - 48) = u
      rw [this]; omega
    · rw [valD_snoc, ih (u / 10) (by omega), digit_val (by omega)]; omega
def isDig (c : UInt8) : Bool := decide (48 ≤ c.toNat) && decide (c.toNat ≤ 57)
theorem dec_dig : ∀ u : Nat, ∀ c ∈ Lib.decDigits u, isDig c = true := by
  intro u
  induction u using Nat.strongRecOn with
  | _ u ih =>
    rw [Lib.decDigits]
    split
    · rename_i h
      intro c hc
      simp only [List.mem_singleton] at hc
      subst hc
      have := digit_val h
      simp [isDig, this]; omega
    · intro c hc
      rcases List.mem_append.1 hc with hc | hc
      · exact ih (u / 10) (by omega) c hc
      · simp only [List.mem_singleton] at hc
        subst hc
        have := digit_val (d := u % 10) (by omega)
        simp [isDig, this]; omega
theorem dec_ne (u : Nat) : Lib.decDigits u ≠ [] := by
  intro e
  have := Lib.decDigits_length u
  rw [e] at this
  have h2 := Lib.nDigits_pos u
  simp at this; omega
theorem itoa_inj {n m : Int} (h : Lib.itoa n = Lib.itoa m) : n = m := by
  have key : ∀ u v : Nat, (45 : UInt8) :: Lib.decDigits u ≠ Lib.decDigits v := fun u v e => by
    have := dec_dig v 45 (by rw [← e]; exact List.mem_cons_self)
    exact absurd this (by decide)
  unfold Lib.itoa at h
  by_cases h1 : n < 0 <;> by_cases h2 : m < 0
  · rw [if_pos h1, if_pos h2] at h
    injection h with _ h
    have := congrArg valD h
    rw [valD_dec, valD_dec] at this
    omega
  · rw [if_pos h1, if_neg h2] at h; exact absurd h (key _ _)
  · rw [if_neg h1, if_pos h2] at h; exact absurd h.symm (key _ _)
  · rw [if_neg h1, if_neg h2] at h
    have := congrArg valD h
    rw [valD_dec, valD_dec] at this
    omega
theorem itoa_no (c : UInt8) (hc : isDig c = false) (h45 : c ≠ 45) (n : Int) : ∀ x ∈ Lib.itoa n, (x != c) = true := by
  have key : ∀ u : Nat, ∀ x ∈ Lib.decDigits u, (x != c) = true := fun u x hx => by
    have := dec_dig u x hx
    simp only [bne_iff_ne, ne_eq]
    rintro rfl
    rw [this] at hc; cases hc
  unfold Lib.itoa
  split
  · intro x hx
    rcases List.mem_cons.1 hx with rfl | hx
    · simpa [bne_iff_ne] using fun e => h45 e.symm
    · exact key _ x hx
  · exact key _
/-! What stands apart. -/
theorem splitC {c : UInt8} {b1 b2 s1 s2 : List UInt8} (h1 : ∀ x ∈ b1, (x != c) = true) (h2 : ∀ x ∈ b2, (x != c) = true) (e1 : s1 = [] ∨ ∃ r, s1 = c :: r) (e2 : s2 = [] ∨ ∃ r, s2 = c :: r)
    (h : b1 ++ s1 = b2 ++ s2) : b1 = b2 ∧ s1 = s2 := by
  have key : ∀ (b s : List UInt8), (∀ x ∈ b, (x != c) = true) → (s = [] ∨ ∃ r, s = c :: r) → (b ++ s).takeWhile (· != c) = b := by
    intro b s hb hs
    rw [List.takeWhile_append_of_pos hb]
    rcases hs with rfl | ⟨r, rfl⟩
    · simp
    · simp
  have e := key b1 s1 h1 e1
  rw [h, key b2 s2 h2 e2] at e
  exact ⟨e.symm, by rw [e] at h; exact List.append_cancel_left h⟩
theorem tail_form (c : UInt8) (r : List (List UInt8)) : Lib.joinTail [c] r = [] ∨ ∃ q, Lib.joinTail [c] r = c :: q := by
  cases r with
  | nil => exact .inl rfl
  | cons y r => exact .inr ⟨y ++ Lib.joinTail [c] r, by simp [Lib.joinTail]⟩
theorem tail_inj {c : UInt8} : ∀ {xs ys : List (List UInt8)}, xs.length = ys.length → (∀ x ∈ xs, ∀ b ∈ x, (b != c) = true) → (∀ x ∈ ys, ∀ b ∈ x, (b != c) = true) → Lib.joinTail [c] xs = Lib.joinTail [c] ys → xs = ys
  | [], [], _, _, _, _ => rfl
  | [], _ :: _, h, _, _, _ => by simp at h
  | _ :: _, [], h, _, _, _ => by simp at h
  | x :: xs, y :: ys, hl, hx, hy, h => by
    have e1 : x ++ Lib.joinTail [c] xs = y ++ Lib.joinTail [c] ys := by
      have : ∀ (z : List UInt8) (zs : List (List UInt8)), Lib.joinTail [c] (z :: zs) = c :: (z ++ Lib.joinTail [c] zs) := fun z zs => by simp [Lib.joinTail]
      rw [this, this] at h
      injection h
    obtain ⟨e2, e3⟩ := splitC (hx x List.mem_cons_self) (hy y List.mem_cons_self) (tail_form c xs) (tail_form c ys) e1
    rw [e2, tail_inj (by simpa using hl) (fun z hz => hx z (List.mem_cons_of_mem _ hz)) (fun z hz => hy z (List.mem_cons_of_mem _ hz)) e3]
theorem join_inj {c : UInt8} {xs ys : List (List UInt8)} (hl : xs.length = ys.length) (hx : ∀ x ∈ xs, ∀ b ∈ x, (b != c) = true) (hy : ∀ x ∈ ys, ∀ b ∈ x, (b != c) = true) (h : Lib.join xs [c] = Lib.join ys [c]) : xs = ys := by
  cases xs with
  | nil =>
    cases ys with
    | nil => rfl
    | cons y ys => simp at hl
  | cons x xs =>
    cases ys with
    | nil => simp at hl
    | cons y ys =>
      rw [Lib.join_cons, Lib.join_cons] at h
      obtain ⟨e2, e3⟩ := splitC (hx x List.mem_cons_self) (hy y List.mem_cons_self) (tail_form c xs) (tail_form c ys) h
      rw [e2, tail_inj (by simpa using hl) (fun z hz => hx z (List.mem_cons_of_mem _ hz)) (fun z hz => hy z (List.mem_cons_of_mem _ hz)) e3]

/-! Enums that may be. -/
structure okCt (l : List En) : Prop where
  nd : ∀ x ∈ l, x.ct.Nodup
  gr : ∀ x ∈ l, ∀ c ∈ x.ct, nameB greatB c = true
  ne : ∀ x ∈ l, 0 < x.ct.length
theorem nodup_part : ∀ {l : List En}, (allC l).Nodup → ∀ x ∈ l, x.ct.Nodup
  | [], _, x, hx => by cases hx
  | e :: r, h, x, hx => by
    simp only [allC, List.flatMap_cons] at h
    have h2 := List.nodup_append.1 h
    rcases List.mem_cons.1 hx with rfl | hx
    · exact h2.1
    · exact nodup_part (l := r) h2.2.1 x hx
theorem okCt_of {l : List En} (h : enumsF l = 0) : okCt l := by
  unfold enumsF at h
  split at h
  · cases h
  · split at h
    · cases h
    · rename_i h2
      split at h
      · rename_i h3
        have h4 : l.any badE = false := by
          cases q : l.any badE
          · rfl
          · exact absurd (.inl q) h2
        have h5 : (allC l).any (fun c => !nameB greatB c) = false := by
          cases q : (allC l).any (fun c => !nameB greatB c)
          · rfl
          · exact absurd (.inr q) h2
        refine ⟨nodup_part h3.2, fun x hx c hc => ?_, fun x hx => ?_⟩
        · have := List.any_eq_false.1 h5 c (List.mem_flatMap.2 ⟨x, hx, hc⟩)
          simpa using this
        · have := List.any_eq_false.1 h4 x hx
          simp only [badE, Bool.or_eq_true, not_or] at this
          have h6 := this.2
          simp only [beq_iff_eq] at h6
          omega
      · cases h
theorem name_no44 {s : List UInt8} (h : nameB greatB s = true) : ∀ c ∈ s, (c != 44) = true := by
  simp only [nameB, Bool.and_eq_true] at h
  intro c hc
  have := List.all_eq_true.1 h.1.1 c hc
  by_cases q : c = 44
  · subst q
    exact absurd this (by decide)
  · simpa using q
theorem ct_mem {l : List En} {t : Ty} (r : rightTy l t = true) (k3 : t.k = 3) : ∃ x ∈ l, ctAt l t = x.ct := by
  obtain ⟨i, ei, hi⟩ := enum_at r k3
  refine ⟨l.getD i default, ?_, by simp [ctAt, ei]⟩
  have : l.getD i default = l[i] := by simp [hi]
  rw [this]; exact List.getElem_mem hi
theorem one_right {l : List En} {t : Ty} {n : Int} (h : oneF l t n = true) : rightTy l t = true := by
  simp only [oneF, Bool.and_eq_true] at h; exact h.1
theorem cellT_no44 {l : List En} (hl : okCt l) {t : Ty} {n : Int} (h : oneF l t n = true) : ∀ c ∈ cellT l t n, (c != 44) = true := by
  unfold cellT
  split
  · unfold boolT; split <;> decide
  · split
    · rename_i k3
      obtain ⟨h1, h2⟩ := one_ct h k3
      obtain ⟨x, hx, ex⟩ := ct_mem (one_right h) k3
      obtain ⟨m, rfl⟩ : ∃ m : Nat, n = m := ⟨n.toNat, by omega⟩
      have hm : m < (ctAt l t).length := by omega
      have e : (ctAt l t).getD (m : Int).toNat [] = (ctAt l t)[m] := by simp [hm]
      rw [e]
      refine name_no44 (hl.gr x hx _ ?_)
      rw [← ex]
      exact List.getElem_mem hm
    · exact itoa_no 44 (by decide) (by decide) n
theorem cellT_inj {l : List En} (hl : okCt l) {t : Ty} {n m : Int} (hn : oneF l t n = true) (hm : oneF l t m = true) (h : cellT l t n = cellT l t m) : n = m := by
  unfold cellT at h
  split at h
  · rename_i k2
    rcases one_bool hn k2 with rfl | rfl <;> rcases one_bool hm k2 with rfl | rfl <;> first | rfl | exact absurd h (by decide)
  · split at h
    · rename_i k3
      obtain ⟨x, hx, ex⟩ := ct_mem (one_right hn) k3
      obtain ⟨a1, a2⟩ := one_ct hn k3
      obtain ⟨b1, b2⟩ := one_ct hm k3
      obtain ⟨i, rfl⟩ : ∃ i : Nat, n = i := ⟨n.toNat, by omega⟩
      obtain ⟨j, rfl⟩ : ∃ j : Nat, m = j := ⟨m.toNat, by omega⟩
      have hi : i < (ctAt l t).length := by omega
      have hj : j < (ctAt l t).length := by omega
      have e1 : (ctAt l t).getD (i : Int).toNat [] = (ctAt l t)[i] := by simp [hi]
      have e2 : (ctAt l t).getD (j : Int).toNat [] = (ctAt l t)[j] := by simp [hj]
      rw [e1, e2] at h
      have hnd := hl.nd x hx
      rw [← ex] at hnd
      have := (List.getElem_inj hnd).1 h
      omega
    · exact itoa_inj h
theorem map_injOn {l : List En} (hl : okCt l) {t : Ty} : ∀ {a b : List Int}, (∀ n ∈ a, oneF l t n = true) → (∀ n ∈ b, oneF l t n = true) → a.map (cellT l t) = b.map (cellT l t) → a = b
  | [], [], _, _, _ => rfl
  | [], _ :: _, _, _, h => by simp at h
  | _ :: _, [], _, _, h => by simp at h
  | x :: a, y :: b, hx, hy, h => by
    simp only [List.map_cons, List.cons.injEq] at h
    rw [cellT_inj hl (hx x List.mem_cons_self) (hy y List.mem_cons_self) h.1, map_injOn hl (fun n hn => hx n (List.mem_cons_of_mem _ hn)) (fun n hn => hy n (List.mem_cons_of_mem _ hn)) h.2]
theorem textV_same {l : List En} (hl : okCt l) {t : Ty} {a b : List Int} (ha : rightV l t a = true) (hb : rightV l t b = true) : (textV l t a == textV l t b) = decide (a = b) := by
  rw [Bool.eq_iff_iff, decide_eq_true_eq, beq_iff_eq]
  constructor
  · intro h
    obtain ⟨_, a2, a3⟩ := rightV_one ha
    obtain ⟨_, b2, b3⟩ := rightV_one hb
    have hbd : bodyT l t a = bodyT l t b := by
      unfold textV at h
      rw [if_pos ha, if_pos hb] at h
      by_cases n0 : 0 < t.n
      · rw [if_pos n0, if_pos n0] at h
        exact List.append_cancel_left (List.append_cancel_right h)
      · rw [if_neg n0, if_neg n0] at h; exact h
    have hm := join_inj (c := 44) (by rw [List.length_map, List.length_map]; omega) (fun x hx => by
      obtain ⟨n, hn, rfl⟩ := List.mem_map.1 hx
      exact cellT_no44 hl (a3 n hn)) (fun x hx => by
      obtain ⟨n, hn, rfl⟩ := List.mem_map.1 hx
      exact cellT_no44 hl (b3 n hn)) hbd
    exact map_injOn hl a3 b3 hm
  · rintro rfl; rfl
theorem zero_right {l : List En} (hl : okCt l) {t : Ty} (r : rightTy l t = true) : rightV l t (zeroV t) = true := by
  have hc := cellsTy_b t
  simp only [rightV, Bool.and_eq_true, beq_iff_eq, List.all_eq_true]
  refine ⟨⟨r, by simp [zeroV]; omega⟩, fun n hn => ?_⟩
  have : n = 0 := by
    unfold zeroV at hn
    exact List.eq_of_mem_replicate hn
  subst this
  simp only [oneF, r, Bool.true_and, oneV]
  split
  · rfl
  · rename_i k2
    by_cases k3 : t.k = 3
    · obtain ⟨i, ei, hi⟩ := enum_at r k3
      have hx : l.getD i default ∈ l := by
        have : l.getD i default = l[i] := by simp [hi]
        rw [this]; exact List.getElem_mem hi
      have := hl.ne _ hx
      simp only [ei, Int.toNat_natCast, Bool.or_eq_true, Bool.and_eq_true, decide_eq_true_eq]
      exact .inr ⟨by omega, by omega⟩
    · have := right_b r
      have k1 : t.k = 1 := by omega
      simp [k1]
end Go.Proofs.YtaoabkpfidbogaaDoor

/- ValRight, ValTexts, ValApart. -/
set_option linter.all false
set_option maxRecDepth 20000
namespace Go.Proofs.YtaoabkpfidbogaaDoor
open Go.Nk

def okI (v : List Int) : Prop := ∀ n ∈ v, okI64 n
theorem okE_of {l : List En} (h : smallF l = true) : okE l := by
  simp only [smallF, Bool.and_eq_true, decide_eq_true_eq, List.all_eq_true] at h
  obtain ⟨h1, h2⟩ := h
  have h3 : ∀ x ∈ l, x.ct.length ≤ 12 ∧ x.name.length ≤ 100 ∧ ∀ c ∈ x.ct, c.length ≤ 100 := fun x hx => by
    have := h2 x hx
    simp only [smallE, smallC, Bool.and_eq_true, decide_eq_true_eq, List.all_eq_true] at this
    exact ⟨this.1.1, this.1.2, this.2⟩
  exact ⟨fun x hx => by have := h3 x hx; omega, fun x hx => by have := h3 x hx; omega, fun x hx c hc => by have := (h3 x hx).2.2 c hc; omega⟩
theorem okTx_of {l : List En} (h : smallF l = true) {v : List Int} (hv : okI v) (hl : v.length ≤ 1000) : okTx l v := ⟨hl, hv, (okE_of h).tx⟩
noncomputable def s_liveV : List DV → Prop × DV := spec0 (True, .bool true)
theorem s_liveV_at : s_liveV [] = (True, .bool true) := spec0_at _
theorem ok_norialaw06_live : OkP Tryd.prog 7 s_liveV := by
  refine OkP.mk0 (ps := [(8, s_TextV)]) (hs := []) ⟨ok_val_Text, trivial⟩ trivial m_norialaw06_live fun _ => ?_
  have e1 := s_TextV_at [] ⟨2, 0, 2⟩ [1, 0]
  rw [eq_true (show okTx [] [1, 0] from ⟨by decide, fun n hn => by
    simp only [List.mem_cons, List.not_mem_nil, or_false] at hn
    rcases hn with rfl | rfl <;> exact ⟨by decide, by decide⟩, fun x hx => by cases hx⟩)] at e1
  have t1 : textV [] ⟨2, 0, 2⟩ [1, 0] = [91, 116, 114, 117, 101, 44, 102, 97, 108, 115, 101, 93] := by decide
  rw [t1] at e1
  simp only [cTy, List.map_nil, ils, List.map_cons] at e1
  (have hcondQ := Bool.and_self; refine Todo.of ?_); (repeat' (first | ((with_reducible refine Todo.to ?_); (repeat (first | (simp only [↓rP, rT, rU, eI, eU, eB, eS, eBs, eL, eA, buildCells, sepsD, sepB, hdl, dvalX, DOp.kind, dval, frameFrom, dBin, dInt, dStr, dBeq, dUn, dLoad, cellsAt, retV, retL, DR.val, fzT, fzVs, fzV, fz1, DV.immB, IntKind.bits, dCallP, viewVs, viewV, view1, capVL, capV, viewL, noMemV, noMem, elemsOf, dAppend, dAppz, dStore, DV.one, alive, freezeAt, fzLL, fzL, bRow, bU, cellsOf, setFrom, DV.isU, lenMax, lenCap, Nat.reduceEqDiff, Nat.reduceAdd, ↓reduceIte, reduceCtorEq, Nat.reduceSub, Int.reduceToNat, Int.reducePow, Nat.reducePow, Int.reduceLE, Int.reduceLT, Nat.reduceLeDiff, Nat.reduceLT, Int.reduceBEq, Int.reduceBNe, Int.reduceEq, Int.reduceNe, Int.reduceAdd, Int.reduceSub, Int.reduceMul, Int.reduceNeg, Int.reduceTDiv, Int.reduceTMod, Int.reduceMod, Int.reduceDiv, Nat.reduceMul, forall_const, implies_true, d_norialaw06_live, s_TextV_at, eEns, eIls, eImg, ePrt, ePrts, eREns, eRTy, eRows, eSs, eTy, eU8, eY, sls_len, ils_len, ils_rowsT, sls_rowsT, sls_tk0, ils_tk0, s_RightTy_at, s_CellsTy_at, ofI_p, ofI_h, only_normal, e1, beq_self_eq_true , hcondQ]) | (simp (disch := omega) only [i64_id, u64_id, u8_id, getD_map'])))) | ((with_reducible refine And.intro ?_ ?_); · first | trivial | omega | (simp; done) | (simp; omega)) | ((first | ((with_reducible refine dwp_condI (t := ?_) ?_ (fun hcQ => ?_) (fun hcQ => ?_)); rotate_left; · rfl) | ((with_reducible refine dops_guardI (t := ?_) ?_ (fun hcQ => ?_) (fun hcQ => ?_)); rotate_left; · rfl)) <;> (have hn := hcQ; have hcondQ := hcQ) <;> (try simp only [decide_eq_true_eq, decide_eq_false_iff_not, beq_iff_eq, bne_iff_ne, ne_eq, Bool.and_eq_true, Bool.or_eq_true, Bool.not_eq_true, Bool.not_eq_false, beq_eq_false_iff_ne, bne_eq_false_iff_eq, Bool.not_eq_true', Bool.not_eq_false', Int.ofNat_lt, Int.ofNat_le, Bool.or_eq_false_iff, Bool.and_eq_false_imp, Decidable.not_not, gt_iff_lt, ge_iff_le] at hn) <;> (try (exfalso; omega)) <;> (refine Todo.of ?_)) | (((with_reducible refine dwp_condA ?_ ?_ ?_); · rfl) <;> (refine Todo.of ?_)))) <;> (try (first | (with_reducible rfl) | exact Nat.le_refl _ | exact Int.le_refl _ | assumption | omega))
noncomputable def s_lawTexts : List DV → Prop × DV := spec3 eEns eTy eIls fun l t v => (okI v, .bool true)
theorem s_lawTexts_at (l : List En) (t : Ty) (v : List Int) : s_lawTexts [.sl (l.map cEn), .agg (cTy t), .sl (ils v)] = (okI v, .bool true) := spec3_at inj_Ens inj_Ty inj_Ils _ l t v
theorem ok_norialaw06_ValTexts : OkP Tryd.prog 3 s_lawTexts := by
  refine OkP.mk3 (ps := [(7, s_liveV), (6, s_Small), (8, s_TextV), (9, s_TextV)]) (hs := []) ⟨ok_norialaw06_live, ok_Small, ok_val_Text, ok_noriaref06_Text, trivial⟩ trivial m_norialaw06_ValTexts fun l t v h => ?_
  try dsimp only at h
  have h : okI v := h
  have e1 := s_Small_at l
  cases c1 : smallF l
  · rw [c1] at e1
    (have hcondQ := Bool.and_self; refine Todo.of ?_); (repeat' (first | ((with_reducible refine Todo.to ?_); (repeat (first | (simp only [↓rP, rT, rU, eI, eU, eB, eS, eBs, eL, eA, buildCells, sepsD, sepB, hdl, dvalX, DOp.kind, dval, frameFrom, dBin, dInt, dStr, dBeq, dUn, dLoad, cellsAt, retV, retL, DR.val, fzT, fzVs, fzV, fz1, DV.immB, IntKind.bits, dCallP, viewVs, viewV, view1, capVL, capV, viewL, noMemV, noMem, elemsOf, dAppend, dAppz, dStore, DV.one, alive, freezeAt, fzLL, fzL, bRow, bU, cellsOf, setFrom, DV.isU, lenMax, lenCap, Nat.reduceEqDiff, Nat.reduceAdd, ↓reduceIte, reduceCtorEq, Nat.reduceSub, Int.reduceToNat, Int.reducePow, Nat.reducePow, Int.reduceLE, Int.reduceLT, Nat.reduceLeDiff, Nat.reduceLT, Int.reduceBEq, Int.reduceBNe, Int.reduceEq, Int.reduceNe, Int.reduceAdd, Int.reduceSub, Int.reduceMul, Int.reduceNeg, Int.reduceTDiv, Int.reduceTMod, Int.reduceMod, Int.reduceDiv, Nat.reduceMul, forall_const, implies_true, d_norialaw06_ValTexts, s_liveV_at, s_Small_at, s_TextV_at, s_TextV_at, eEns, eIls, eImg, ePrt, ePrts, eREns, eRTy, eRows, eSs, eTy, eU8, eY, sls_len, ils_len, ils_rowsT, sls_rowsT, sls_tk0, ils_tk0, s_RightTy_at, s_CellsTy_at, ofI_p, ofI_h, only_normal, e1 , hcondQ]) | (simp (disch := omega) only [i64_id, u64_id, u8_id, getD_map'])))) | ((with_reducible refine And.intro ?_ ?_); · first | trivial | omega | (simp; done) | (simp; omega)) | ((first | ((with_reducible refine dwp_condI (t := ?_) ?_ (fun hcQ => ?_) (fun hcQ => ?_)); rotate_left; · rfl) | ((with_reducible refine dops_guardI (t := ?_) ?_ (fun hcQ => ?_) (fun hcQ => ?_)); rotate_left; · rfl)) <;> (have hn := hcQ; have hcondQ := hcQ) <;> (try simp only [decide_eq_true_eq, decide_eq_false_iff_not, beq_iff_eq, bne_iff_ne, ne_eq, Bool.and_eq_true, Bool.or_eq_true, Bool.not_eq_true, Bool.not_eq_false, beq_eq_false_iff_ne, bne_eq_false_iff_eq, Bool.not_eq_true', Bool.not_eq_false', Int.ofNat_lt, Int.ofNat_le, Bool.or_eq_false_iff, Bool.and_eq_false_imp, Decidable.not_not, gt_iff_lt, ge_iff_le] at hn) <;> (try (exfalso; omega)) <;> (refine Todo.of ?_)) | (((with_reducible refine dwp_condA ?_ ?_ ?_); · rfl) <;> (refine Todo.of ?_)))) <;> (try (first | (with_reducible rfl) | exact Nat.le_refl _ | exact Int.le_refl _ | assumption | omega))
  rw [c1] at e1
  by_cases q : 20 < v.length
  · have q2 : (20 : Int) < v.length := by omega
    (have hcondQ := Bool.and_self; refine Todo.of ?_); (repeat' (first | ((with_reducible refine Todo.to ?_); (repeat (first | (simp only [↓rP, rT, rU, eI, eU, eB, eS, eBs, eL, eA, buildCells, sepsD, sepB, hdl, dvalX, DOp.kind, dval, frameFrom, dBin, dInt, dStr, dBeq, dUn, dLoad, cellsAt, retV, retL, DR.val, fzT, fzVs, fzV, fz1, DV.immB, IntKind.bits, dCallP, viewVs, viewV, view1, capVL, capV, viewL, noMemV, noMem, elemsOf, dAppend, dAppz, dStore, DV.one, alive, freezeAt, fzLL, fzL, bRow, bU, cellsOf, setFrom, DV.isU, lenMax, lenCap, Nat.reduceEqDiff, Nat.reduceAdd, ↓reduceIte, reduceCtorEq, Nat.reduceSub, Int.reduceToNat, Int.reducePow, Nat.reducePow, Int.reduceLE, Int.reduceLT, Nat.reduceLeDiff, Nat.reduceLT, Int.reduceBEq, Int.reduceBNe, Int.reduceEq, Int.reduceNe, Int.reduceAdd, Int.reduceSub, Int.reduceMul, Int.reduceNeg, Int.reduceTDiv, Int.reduceTMod, Int.reduceMod, Int.reduceDiv, Nat.reduceMul, forall_const, implies_true, d_norialaw06_ValTexts, s_liveV_at, s_Small_at, s_TextV_at, s_TextV_at, eEns, eIls, eImg, ePrt, ePrts, eREns, eRTy, eRows, eSs, eTy, eU8, eY, sls_len, ils_len, ils_rowsT, sls_rowsT, sls_tk0, ils_tk0, s_RightTy_at, s_CellsTy_at, ofI_p, ofI_h, only_normal, e1, q2, ils_len , hcondQ]) | (simp (disch := omega) only [i64_id, u64_id, u8_id, getD_map'])))) | ((with_reducible refine And.intro ?_ ?_); · first | trivial | omega | (simp; done) | (simp; omega)) | ((first | ((with_reducible refine dwp_condI (t := ?_) ?_ (fun hcQ => ?_) (fun hcQ => ?_)); rotate_left; · rfl) | ((with_reducible refine dops_guardI (t := ?_) ?_ (fun hcQ => ?_) (fun hcQ => ?_)); rotate_left; · rfl)) <;> (have hn := hcQ; have hcondQ := hcQ) <;> (try simp only [decide_eq_true_eq, decide_eq_false_iff_not, beq_iff_eq, bne_iff_ne, ne_eq, Bool.and_eq_true, Bool.or_eq_true, Bool.not_eq_true, Bool.not_eq_false, beq_eq_false_iff_ne, bne_eq_false_iff_eq, Bool.not_eq_true', Bool.not_eq_false', Int.ofNat_lt, Int.ofNat_le, Bool.or_eq_false_iff, Bool.and_eq_false_imp, Decidable.not_not, gt_iff_lt, ge_iff_le] at hn) <;> (try (exfalso; omega)) <;> (refine Todo.of ?_)) | (((with_reducible refine dwp_condA ?_ ?_ ?_); · rfl) <;> (refine Todo.of ?_)))) <;> (try (first | (with_reducible rfl) | exact Nat.le_refl _ | exact Int.le_refl _ | assumption | omega))
  have q2 : ¬ (20 : Int) < v.length := by omega
  have e2 := s_TextV_at l t v
  rw [eq_true (okTx_of c1 h (by omega))] at e2
  generalize textV l t v = x at e2
  (have hcondQ := Bool.and_self; refine Todo.of ?_); (repeat' (first | ((with_reducible refine Todo.to ?_); (repeat (first | (simp only [↓rP, rT, rU, eI, eU, eB, eS, eBs, eL, eA, buildCells, sepsD, sepB, hdl, dvalX, DOp.kind, dval, frameFrom, dBin, dInt, dStr, dBeq, dUn, dLoad, cellsAt, retV, retL, DR.val, fzT, fzVs, fzV, fz1, DV.immB, IntKind.bits, dCallP, viewVs, viewV, view1, capVL, capV, viewL, noMemV, noMem, elemsOf, dAppend, dAppz, dStore, DV.one, alive, freezeAt, fzLL, fzL, bRow, bU, cellsOf, setFrom, DV.isU, lenMax, lenCap, Nat.reduceEqDiff, Nat.reduceAdd, ↓reduceIte, reduceCtorEq, Nat.reduceSub, Int.reduceToNat, Int.reducePow, Nat.reducePow, Int.reduceLE, Int.reduceLT, Nat.reduceLeDiff, Nat.reduceLT, Int.reduceBEq, Int.reduceBNe, Int.reduceEq, Int.reduceNe, Int.reduceAdd, Int.reduceSub, Int.reduceMul, Int.reduceNeg, Int.reduceTDiv, Int.reduceTMod, Int.reduceMod, Int.reduceDiv, Nat.reduceMul, forall_const, implies_true, d_norialaw06_ValTexts, s_liveV_at, s_Small_at, s_TextV_at, s_TextV_at, eEns, eIls, eImg, ePrt, ePrts, eREns, eRTy, eRows, eSs, eTy, eU8, eY, sls_len, ils_len, ils_rowsT, sls_rowsT, sls_tk0, ils_tk0, s_RightTy_at, s_CellsTy_at, ofI_p, ofI_h, only_normal, e1, q2, e2, ils_len, beq_self_eq_true , hcondQ]) | (simp (disch := omega) only [i64_id, u64_id, u8_id, getD_map'])))) | ((with_reducible refine And.intro ?_ ?_); · first | trivial | omega | (simp; done) | (simp; omega)) | ((first | ((with_reducible refine dwp_condI (t := ?_) ?_ (fun hcQ => ?_) (fun hcQ => ?_)); rotate_left; · rfl) | ((with_reducible refine dops_guardI (t := ?_) ?_ (fun hcQ => ?_) (fun hcQ => ?_)); rotate_left; · rfl)) <;> (have hn := hcQ; have hcondQ := hcQ) <;> (try simp only [decide_eq_true_eq, decide_eq_false_iff_not, beq_iff_eq, bne_iff_ne, ne_eq, Bool.and_eq_true, Bool.or_eq_true, Bool.not_eq_true, Bool.not_eq_false, beq_eq_false_iff_ne, bne_eq_false_iff_eq, Bool.not_eq_true', Bool.not_eq_false', Int.ofNat_lt, Int.ofNat_le, Bool.or_eq_false_iff, Bool.and_eq_false_imp, Decidable.not_not, gt_iff_lt, ge_iff_le] at hn) <;> (try (exfalso; omega)) <;> (refine Todo.of ?_)) | (((with_reducible refine dwp_condA ?_ ?_ ?_); · rfl) <;> (refine Todo.of ?_)))) <;> (try (first | (with_reducible rfl) | exact Nat.le_refl _ | exact Int.le_refl _ | assumption | omega))
@[reducible] def eV2 (x : List Int × List Int) : DV := .agg [.sl (ils x.1), .sl (ils x.2)]
theorem inj_V2 : Inj eV2 := fun x y h => by
  obtain ⟨a, b⟩ := x; obtain ⟨c, d⟩ := y
  simp only [eV2, DV.agg.injEq, List.cons.injEq, DV.sl.injEq, and_true] at h
  rw [ils_inj h.1, ils_inj h.2]
theorem and_bb (b : Bool) : (b == b) = true := by cases b <;> rfl
noncomputable def s_lawApart : List DV → Prop × DV := spec3 eEns eTy eV2 fun l t v => (okI v.1 ∧ okI v.2, .bool true)
theorem s_lawApart_at (l : List En) (t : Ty) (v : List Int × List Int) : s_lawApart [.sl (l.map cEn), .agg (cTy t), .agg [.sl (ils v.1), .sl (ils v.2)]] = (okI v.1 ∧ okI v.2, .bool true) := spec3_at inj_Ens inj_Ty inj_V2 _ l t v
theorem ok_norialaw06_ValApart : OkP Tryd.prog 4 s_lawApart := by
  refine OkP.mk3 (ps := [(7, s_liveV), (6, s_Small), (10, s_Enums), (11, s_RightTy), (13, s_Zero), (12, s_RightV), (8, s_TextV), (14, s_Vals)]) (hs := []) ⟨ok_norialaw06_live, ok_Small, ok_noriaref05_Enums, ok_refRightTy, ok_val_Zero, ok_RightV, ok_val_Text, ok_noriaref01_Vals, trivial⟩ trivial m_norialaw06_ValApart fun l t v h => ?_
  try dsimp only at h
  obtain ⟨a, b⟩ := v
  obtain ⟨ha, hb⟩ := (show okI a ∧ okI b from h)
  have e1 := s_Small_at l
  cases c1 : smallF l
  · rw [c1] at e1
    (have hcondQ := Bool.and_self; refine Todo.of ?_); (repeat' (first | ((with_reducible refine Todo.to ?_); (repeat (first | (simp only [↓rP, rT, rU, eI, eU, eB, eS, eBs, eL, eA, buildCells, sepsD, sepB, hdl, dvalX, DOp.kind, dval, frameFrom, dBin, dInt, dStr, dBeq, dUn, dLoad, cellsAt, retV, retL, DR.val, fzT, fzVs, fzV, fz1, DV.immB, IntKind.bits, dCallP, viewVs, viewV, view1, capVL, capV, viewL, noMemV, noMem, elemsOf, dAppend, dAppz, dStore, DV.one, alive, freezeAt, fzLL, fzL, bRow, bU, cellsOf, setFrom, DV.isU, lenMax, lenCap, Nat.reduceEqDiff, Nat.reduceAdd, ↓reduceIte, reduceCtorEq, Nat.reduceSub, Int.reduceToNat, Int.reducePow, Nat.reducePow, Int.reduceLE, Int.reduceLT, Nat.reduceLeDiff, Nat.reduceLT, Int.reduceBEq, Int.reduceBNe, Int.reduceEq, Int.reduceNe, Int.reduceAdd, Int.reduceSub, Int.reduceMul, Int.reduceNeg, Int.reduceTDiv, Int.reduceTMod, Int.reduceMod, Int.reduceDiv, Nat.reduceMul, forall_const, implies_true, d_norialaw06_ValApart, s_liveV_at, s_Small_at, s_Enums_at, s_RightTy_at, s_Zero_at, s_RightV_at, s_TextV_at, s_Vals_at, eEns, eIls, eImg, ePrt, ePrts, eREns, eRTy, eRows, eSs, eTy, eU8, eV2, eY, sls_len, ils_len, ils_rowsT, sls_rowsT, sls_tk0, ils_tk0, s_RightTy_at, s_CellsTy_at, ofI_p, ofI_h, only_normal, e1 , hcondQ]) | (simp (disch := omega) only [i64_id, u64_id, u8_id, getD_map'])))) | ((with_reducible refine And.intro ?_ ?_); · first | trivial | omega | (simp; done) | (simp; omega)) | ((first | ((with_reducible refine dwp_condI (t := ?_) ?_ (fun hcQ => ?_) (fun hcQ => ?_)); rotate_left; · rfl) | ((with_reducible refine dops_guardI (t := ?_) ?_ (fun hcQ => ?_) (fun hcQ => ?_)); rotate_left; · rfl)) <;> (have hn := hcQ; have hcondQ := hcQ) <;> (try simp only [decide_eq_true_eq, decide_eq_false_iff_not, beq_iff_eq, bne_iff_ne, ne_eq, Bool.and_eq_true, Bool.or_eq_true, Bool.not_eq_true, Bool.not_eq_false, beq_eq_false_iff_ne, bne_eq_false_iff_eq, Bool.not_eq_true', Bool.not_eq_false', Int.ofNat_lt, Int.ofNat_le, Bool.or_eq_false_iff, Bool.and_eq_false_imp, Decidable.not_not, gt_iff_lt, ge_iff_le] at hn) <;> (try (exfalso; omega)) <;> (refine Todo.of ?_)) | (((with_reducible refine dwp_condA ?_ ?_ ?_); · rfl) <;> (refine Todo.of ?_)))) <;> (try (first | (with_reducible rfl) | exact Nat.le_refl _ | exact Int.le_refl _ | assumption | omega))
  rw [c1] at e1
  have e2 := s_Enums_at l
  rw [eq_true (okE_of c1)] at e2
  by_cases z : enumsF l = 0
  rotate_left
  · have z2 : (enumsF l != 0) = true := by simpa using z
    (have hcondQ := Bool.and_self; refine Todo.of ?_); (repeat' (first | ((with_reducible refine Todo.to ?_); (repeat (first | (simp only [↓rP, rT, rU, eI, eU, eB, eS, eBs, eL, eA, buildCells, sepsD, sepB, hdl, dvalX, DOp.kind, dval, frameFrom, dBin, dInt, dStr, dBeq, dUn, dLoad, cellsAt, retV, retL, DR.val, fzT, fzVs, fzV, fz1, DV.immB, IntKind.bits, dCallP, viewVs, viewV, view1, capVL, capV, viewL, noMemV, noMem, elemsOf, dAppend, dAppz, dStore, DV.one, alive, freezeAt, fzLL, fzL, bRow, bU, cellsOf, setFrom, DV.isU, lenMax, lenCap, Nat.reduceEqDiff, Nat.reduceAdd, ↓reduceIte, reduceCtorEq, Nat.reduceSub, Int.reduceToNat, Int.reducePow, Nat.reducePow, Int.reduceLE, Int.reduceLT, Nat.reduceLeDiff, Nat.reduceLT, Int.reduceBEq, Int.reduceBNe, Int.reduceEq, Int.reduceNe, Int.reduceAdd, Int.reduceSub, Int.reduceMul, Int.reduceNeg, Int.reduceTDiv, Int.reduceTMod, Int.reduceMod, Int.reduceDiv, Nat.reduceMul, forall_const, implies_true, d_norialaw06_ValApart, s_liveV_at, s_Small_at, s_Enums_at, s_RightTy_at, s_Zero_at, s_RightV_at, s_TextV_at, s_Vals_at, eEns, eIls, eImg, ePrt, ePrts, eREns, eRTy, eRows, eSs, eTy, eU8, eV2, eY, sls_len, ils_len, ils_rowsT, sls_rowsT, sls_tk0, ils_tk0, s_RightTy_at, s_CellsTy_at, ofI_p, ofI_h, only_normal, e1, e2, z2 , hcondQ]) | (simp (disch := omega) only [i64_id, u64_id, u8_id, getD_map'])))) | ((with_reducible refine And.intro ?_ ?_); · first | trivial | omega | (simp; done) | (simp; omega)) | ((first | ((with_reducible refine dwp_condI (t := ?_) ?_ (fun hcQ => ?_) (fun hcQ => ?_)); rotate_left; · rfl) | ((with_reducible refine dops_guardI (t := ?_) ?_ (fun hcQ => ?_) (fun hcQ => ?_)); rotate_left; · rfl)) <;> (have hn := hcQ; have hcondQ := hcQ) <;> (try simp only [decide_eq_true_eq, decide_eq_false_iff_not, beq_iff_eq, bne_iff_ne, ne_eq, Bool.and_eq_true, Bool.or_eq_true, Bool.not_eq_true, Bool.not_eq_false, beq_eq_false_iff_ne, bne_eq_false_iff_eq, Bool.not_eq_true', Bool.not_eq_false', Int.ofNat_lt, Int.ofNat_le, Bool.or_eq_false_iff, Bool.and_eq_false_imp, Decidable.not_not, gt_iff_lt, ge_iff_le] at hn) <;> (try (exfalso; omega)) <;> (refine Todo.of ?_)) | (((with_reducible refine dwp_condA ?_ ?_ ?_); · rfl) <;> (refine Todo.of ?_)))) <;> (try (first | (with_reducible rfl) | exact Nat.le_refl _ | exact Int.le_refl _ | assumption | omega))
  have hl := okCt_of z
  have z2 : (enumsF l != 0) = false := by simp [z]
  by_cases q : 20 < a.length
  · have q2 : (20 : Int) < a.length := by omega
    (have hcondQ := Bool.and_self; refine Todo.of ?_); (repeat' (first | ((with_reducible refine Todo.to ?_); (repeat (first | (simp only [↓rP, rT, rU, eI, eU, eB, eS, eBs, eL, eA, buildCells, sepsD, sepB, hdl, dvalX, DOp.kind, dval, frameFrom, dBin, dInt, dStr, dBeq, dUn, dLoad, cellsAt, retV, retL, DR.val, fzT, fzVs, fzV, fz1, DV.immB, IntKind.bits, dCallP, viewVs, viewV, view1, capVL, capV, viewL, noMemV, noMem, elemsOf, dAppend, dAppz, dStore, DV.one, alive, freezeAt, fzLL, fzL, bRow, bU, cellsOf, setFrom, DV.isU, lenMax, lenCap, Nat.reduceEqDiff, Nat.reduceAdd, ↓reduceIte, reduceCtorEq, Nat.reduceSub, Int.reduceToNat, Int.reducePow, Nat.reducePow, Int.reduceLE, Int.reduceLT, Nat.reduceLeDiff, Nat.reduceLT, Int.reduceBEq, Int.reduceBNe, Int.reduceEq, Int.reduceNe, Int.reduceAdd, Int.reduceSub, Int.reduceMul, Int.reduceNeg, Int.reduceTDiv, Int.reduceTMod, Int.reduceMod, Int.reduceDiv, Nat.reduceMul, forall_const, implies_true, d_norialaw06_ValApart, s_liveV_at, s_Small_at, s_Enums_at, s_RightTy_at, s_Zero_at, s_RightV_at, s_TextV_at, s_Vals_at, eEns, eIls, eImg, ePrt, ePrts, eREns, eRTy, eRows, eSs, eTy, eU8, eV2, eY, sls_len, ils_len, ils_rowsT, sls_rowsT, sls_tk0, ils_tk0, s_RightTy_at, s_CellsTy_at, ofI_p, ofI_h, only_normal, e1, e2, z2, q2, ils_len , hcondQ]) | (simp (disch := omega) only [i64_id, u64_id, u8_id, getD_map'])))) | ((with_reducible refine And.intro ?_ ?_); · first | trivial | omega | (simp; done) | (simp; omega)) | ((first | ((with_reducible refine dwp_condI (t := ?_) ?_ (fun hcQ => ?_) (fun hcQ => ?_)); rotate_left; · rfl) | ((with_reducible refine dops_guardI (t := ?_) ?_ (fun hcQ => ?_) (fun hcQ => ?_)); rotate_left; · rfl)) <;> (have hn := hcQ; have hcondQ := hcQ) <;> (try simp only [decide_eq_true_eq, decide_eq_false_iff_not, beq_iff_eq, bne_iff_ne, ne_eq, Bool.and_eq_true, Bool.or_eq_true, Bool.not_eq_true, Bool.not_eq_false, beq_eq_false_iff_ne, bne_eq_false_iff_eq, Bool.not_eq_true', Bool.not_eq_false', Int.ofNat_lt, Int.ofNat_le, Bool.or_eq_false_iff, Bool.and_eq_false_imp, Decidable.not_not, gt_iff_lt, ge_iff_le] at hn) <;> (try (exfalso; omega)) <;> (refine Todo.of ?_)) | (((with_reducible refine dwp_condA ?_ ?_ ?_); · rfl) <;> (refine Todo.of ?_)))) <;> (try (first | (with_reducible rfl) | exact Nat.le_refl _ | exact Int.le_refl _ | assumption | omega))
  have q2 : ¬ (20 : Int) < a.length := by omega
  by_cases p : 20 < b.length
  · have p2 : (20 : Int) < b.length := by omega
    (have hcondQ := Bool.and_self; refine Todo.of ?_); (repeat' (first | ((with_reducible refine Todo.to ?_); (repeat (first | (simp only [↓rP, rT, rU, eI, eU, eB, eS, eBs, eL, eA, buildCells, sepsD, sepB, hdl, dvalX, DOp.kind, dval, frameFrom, dBin, dInt, dStr, dBeq, dUn, dLoad, cellsAt, retV, retL, DR.val, fzT, fzVs, fzV, fz1, DV.immB, IntKind.bits, dCallP, viewVs, viewV, view1, capVL, capV, viewL, noMemV, noMem, elemsOf, dAppend, dAppz, dStore, DV.one, alive, freezeAt, fzLL, fzL, bRow, bU, cellsOf, setFrom, DV.isU, lenMax, lenCap, Nat.reduceEqDiff, Nat.reduceAdd, ↓reduceIte, reduceCtorEq, Nat.reduceSub, Int.reduceToNat, Int.reducePow, Nat.reducePow, Int.reduceLE, Int.reduceLT, Nat.reduceLeDiff, Nat.reduceLT, Int.reduceBEq, Int.reduceBNe, Int.reduceEq, Int.reduceNe, Int.reduceAdd, Int.reduceSub, Int.reduceMul, Int.reduceNeg, Int.reduceTDiv, Int.reduceTMod, Int.reduceMod, Int.reduceDiv, Nat.reduceMul, forall_const, implies_true, d_norialaw06_ValApart, s_liveV_at, s_Small_at, s_Enums_at, s_RightTy_at, s_Zero_at, s_RightV_at, s_TextV_at, s_Vals_at, eEns, eIls, eImg, ePrt, ePrts, eREns, eRTy, eRows, eSs, eTy, eU8, eV2, eY, sls_len, ils_len, ils_rowsT, sls_rowsT, sls_tk0, ils_tk0, s_RightTy_at, s_CellsTy_at, ofI_p, ofI_h, only_normal, e1, e2, z2, q2, p2, ils_len , hcondQ]) | (simp (disch := omega) only [i64_id, u64_id, u8_id, getD_map'])))) | ((with_reducible refine And.intro ?_ ?_); · first | trivial | omega | (simp; done) | (simp; omega)) | ((first | ((with_reducible refine dwp_condI (t := ?_) ?_ (fun hcQ => ?_) (fun hcQ => ?_)); rotate_left; · rfl) | ((with_reducible refine dops_guardI (t := ?_) ?_ (fun hcQ => ?_) (fun hcQ => ?_)); rotate_left; · rfl)) <;> (have hn := hcQ; have hcondQ := hcQ) <;> (try simp only [decide_eq_true_eq, decide_eq_false_iff_not, beq_iff_eq, bne_iff_ne, ne_eq, Bool.and_eq_true, Bool.or_eq_true, Bool.not_eq_true, Bool.not_eq_false, beq_eq_false_iff_ne, bne_eq_false_iff_eq, Bool.not_eq_true', Bool.not_eq_false', Int.ofNat_lt, Int.ofNat_le, Bool.or_eq_false_iff, Bool.and_eq_false_imp, Decidable.not_not, gt_iff_lt, ge_iff_le] at hn) <;> (try (exfalso; omega)) <;> (refine Todo.of ?_)) | (((with_reducible refine dwp_condA ?_ ?_ ?_); · rfl) <;> (refine Todo.of ?_)))) <;> (try (first | (with_reducible rfl) | exact Nat.le_refl _ | exact Int.le_refl _ | assumption | omega))
  have p2 : ¬ (20 : Int) < b.length := by omega
  have er := s_RightTy_at l t
  have ez := s_RightV_at l t (zeroV t)
  have hcz := cellsTy_b t
  rw [eq_true (show (zeroV t).length ≤ 1000000000 by unfold zeroV; rw [List.length_replicate]; omega)] at ez
  have ea := s_RightV_at l t a
  have eb := s_RightV_at l t b
  rw [eq_true (show a.length ≤ 1000000000 by omega)] at ea
  rw [eq_true (show b.length ≤ 1000000000 by omega)] at eb
  have ta := s_TextV_at l t a
  have tb := s_TextV_at l t b
  rw [eq_true (okTx_of c1 ha (by omega))] at ta
  rw [eq_true (okTx_of c1 hb (by omega))] at tb
  have ev := s_Vals_at a b
  rw [eq_true (show a.length ≤ 17592186044416 by omega)] at ev
  have ez0 := s_Zero_at t
  simp only [cTy] at er ez ez0 ea eb ta tb
  have fin : ∀ r : Bool, (r = true → rightV l t (zeroV t) = true) → True := fun _ _ => trivial
  clear fin
  have rz : rightTy l t = true → rightV l t (zeroV t) = true := zero_right hl
  generalize rightV l t (zeroV t) = zz at ez rz
  generalize zeroV t = zv at ez ez0
  cases r0 : rightTy l t
  · rw [r0] at er
    have ra : rightV l t a = false := by simp [rightV, r0]
    rw [ra] at ea
    (have hcondQ := Bool.and_self; refine Todo.of ?_); (repeat' (first | ((with_reducible refine Todo.to ?_); (repeat (first | (simp only [↓rP, rT, rU, eI, eU, eB, eS, eBs, eL, eA, buildCells, sepsD, sepB, hdl, dvalX, DOp.kind, dval, frameFrom, dBin, dInt, dStr, dBeq, dUn, dLoad, cellsAt, retV, retL, DR.val, fzT, fzVs, fzV, fz1, DV.immB, IntKind.bits, dCallP, viewVs, viewV, view1, capVL, capV, viewL, noMemV, noMem, elemsOf, dAppend, dAppz, dStore, DV.one, alive, freezeAt, fzLL, fzL, bRow, bU, cellsOf, setFrom, DV.isU, lenMax, lenCap, Nat.reduceEqDiff, Nat.reduceAdd, ↓reduceIte, reduceCtorEq, Nat.reduceSub, Int.reduceToNat, Int.reducePow, Nat.reducePow, Int.reduceLE, Int.reduceLT, Nat.reduceLeDiff, Nat.reduceLT, Int.reduceBEq, Int.reduceBNe, Int.reduceEq, Int.reduceNe, Int.reduceAdd, Int.reduceSub, Int.reduceMul, Int.reduceNeg, Int.reduceTDiv, Int.reduceTMod, Int.reduceMod, Int.reduceDiv, Nat.reduceMul, forall_const, implies_true, d_norialaw06_ValApart, s_liveV_at, s_Small_at, s_Enums_at, s_RightTy_at, s_Zero_at, s_RightV_at, s_TextV_at, s_Vals_at, eEns, eIls, eImg, ePrt, ePrts, eREns, eRTy, eRows, eSs, eTy, eU8, eV2, eY, sls_len, ils_len, ils_rowsT, sls_rowsT, sls_tk0, ils_tk0, s_RightTy_at, s_CellsTy_at, ofI_p, ofI_h, only_normal, e1, e2, z2, q2, p2, ils_len, er, ea , hcondQ]) | (simp (disch := omega) only [i64_id, u64_id, u8_id, getD_map'])))) | ((with_reducible refine And.intro ?_ ?_); · first | trivial | omega | (simp; done) | (simp; omega)) | ((first | ((with_reducible refine dwp_condI (t := ?_) ?_ (fun hcQ => ?_) (fun hcQ => ?_)); rotate_left; · rfl) | ((with_reducible refine dops_guardI (t := ?_) ?_ (fun hcQ => ?_) (fun hcQ => ?_)); rotate_left; · rfl)) <;> (have hn := hcQ; have hcondQ := hcQ) <;> (try simp only [decide_eq_true_eq, decide_eq_false_iff_not, beq_iff_eq, bne_iff_ne, ne_eq, Bool.and_eq_true, Bool.or_eq_true, Bool.not_eq_true, Bool.not_eq_false, beq_eq_false_iff_ne, bne_eq_false_iff_eq, Bool.not_eq_true', Bool.not_eq_false', Int.ofNat_lt, Int.ofNat_le, Bool.or_eq_false_iff, Bool.and_eq_false_imp, Decidable.not_not, gt_iff_lt, ge_iff_le] at hn) <;> (try (exfalso; omega)) <;> (refine Todo.of ?_)) | (((with_reducible refine dwp_condA ?_ ?_ ?_); · rfl) <;> (refine Todo.of ?_)))) <;> (try (first | (with_reducible rfl) | exact Nat.le_refl _ | exact Int.le_refl _ | assumption | omega))
  rw [r0] at er
  rw [rz r0] at ez
  cases ra : rightV l t a
  · rw [ra] at ea
    (have hcondQ := Bool.and_self; refine Todo.of ?_); (repeat' (first | ((with_reducible refine Todo.to ?_); (repeat (first | (simp only [↓rP, rT, rU, eI, eU, eB, eS, eBs, eL, eA, buildCells, sepsD, sepB, hdl, dvalX, DOp.kind, dval, frameFrom, dBin, dInt, dStr, dBeq, dUn, dLoad, cellsAt, retV, retL, DR.val, fzT, fzVs, fzV, fz1, DV.immB, IntKind.bits, dCallP, viewVs, viewV, view1, capVL, capV, viewL, noMemV, noMem, elemsOf, dAppend, dAppz, dStore, DV.one, alive, freezeAt, fzLL, fzL, bRow, bU, cellsOf, setFrom, DV.isU, lenMax, lenCap, Nat.reduceEqDiff, Nat.reduceAdd, ↓reduceIte, reduceCtorEq, Nat.reduceSub, Int.reduceToNat, Int.reducePow, Nat.reducePow, Int.reduceLE, Int.reduceLT, Nat.reduceLeDiff, Nat.reduceLT, Int.reduceBEq, Int.reduceBNe, Int.reduceEq, Int.reduceNe, Int.reduceAdd, Int.reduceSub, Int.reduceMul, Int.reduceNeg, Int.reduceTDiv, Int.reduceTMod, Int.reduceMod, Int.reduceDiv, Nat.reduceMul, forall_const, implies_true, d_norialaw06_ValApart, s_liveV_at, s_Small_at, s_Enums_at, s_RightTy_at, s_Zero_at, s_RightV_at, s_TextV_at, s_Vals_at, eEns, eIls, eImg, ePrt, ePrts, eREns, eRTy, eRows, eSs, eTy, eU8, eV2, eY, sls_len, ils_len, ils_rowsT, sls_rowsT, sls_tk0, ils_tk0, s_RightTy_at, s_CellsTy_at, ofI_p, ofI_h, only_normal, e1, e2, z2, q2, p2, ils_len, er, ez0, ez, ea , hcondQ]) | (simp (disch := omega) only [i64_id, u64_id, u8_id, getD_map'])))) | ((with_reducible refine And.intro ?_ ?_); · first | trivial | omega | (simp; done) | (simp; omega)) | ((first | ((with_reducible refine dwp_condI (t := ?_) ?_ (fun hcQ => ?_) (fun hcQ => ?_)); rotate_left; · rfl) | ((with_reducible refine dops_guardI (t := ?_) ?_ (fun hcQ => ?_) (fun hcQ => ?_)); rotate_left; · rfl)) <;> (have hn := hcQ; have hcondQ := hcQ) <;> (try simp only [decide_eq_true_eq, decide_eq_false_iff_not, beq_iff_eq, bne_iff_ne, ne_eq, Bool.and_eq_true, Bool.or_eq_true, Bool.not_eq_true, Bool.not_eq_false, beq_eq_false_iff_ne, bne_eq_false_iff_eq, Bool.not_eq_true', Bool.not_eq_false', Int.ofNat_lt, Int.ofNat_le, Bool.or_eq_false_iff, Bool.and_eq_false_imp, Decidable.not_not, gt_iff_lt, ge_iff_le] at hn) <;> (try (exfalso; omega)) <;> (refine Todo.of ?_)) | (((with_reducible refine dwp_condA ?_ ?_ ?_); · rfl) <;> (refine Todo.of ?_)))) <;> (try (first | (with_reducible rfl) | exact Nat.le_refl _ | exact Int.le_refl _ | assumption | omega))
  cases rb : rightV l t b
  · rw [ra] at ea
    rw [rb] at eb
    (have hcondQ := Bool.and_self; refine Todo.of ?_); (repeat' (first | ((with_reducible refine Todo.to ?_); (repeat (first | (simp only [↓rP, rT, rU, eI, eU, eB, eS, eBs, eL, eA, buildCells, sepsD, sepB, hdl, dvalX, DOp.kind, dval, frameFrom, dBin, dInt, dStr, dBeq, dUn, dLoad, cellsAt, retV, retL, DR.val, fzT, fzVs, fzV, fz1, DV.immB, IntKind.bits, dCallP, viewVs, viewV, view1, capVL, capV, viewL, noMemV, noMem, elemsOf, dAppend, dAppz, dStore, DV.one, alive, freezeAt, fzLL, fzL, bRow, bU, cellsOf, setFrom, DV.isU, lenMax, lenCap, Nat.reduceEqDiff, Nat.reduceAdd, ↓reduceIte, reduceCtorEq, Nat.reduceSub, Int.reduceToNat, Int.reducePow, Nat.reducePow, Int.reduceLE, Int.reduceLT, Nat.reduceLeDiff, Nat.reduceLT, Int.reduceBEq, Int.reduceBNe, Int.reduceEq, Int.reduceNe, Int.reduceAdd, Int.reduceSub, Int.reduceMul, Int.reduceNeg, Int.reduceTDiv, Int.reduceTMod, Int.reduceMod, Int.reduceDiv, Nat.reduceMul, forall_const, implies_true, d_norialaw06_ValApart, s_liveV_at, s_Small_at, s_Enums_at, s_RightTy_at, s_Zero_at, s_RightV_at, s_TextV_at, s_Vals_at, eEns, eIls, eImg, ePrt, ePrts, eREns, eRTy, eRows, eSs, eTy, eU8, eV2, eY, sls_len, ils_len, ils_rowsT, sls_rowsT, sls_tk0, ils_tk0, s_RightTy_at, s_CellsTy_at, ofI_p, ofI_h, only_normal, e1, e2, z2, q2, p2, ils_len, er, ez0, ez, ea, eb , hcondQ]) | (simp (disch := omega) only [i64_id, u64_id, u8_id, getD_map'])))) | ((with_reducible refine And.intro ?_ ?_); · first | trivial | omega | (simp; done) | (simp; omega)) | ((first | ((with_reducible refine dwp_condI (t := ?_) ?_ (fun hcQ => ?_) (fun hcQ => ?_)); rotate_left; · rfl) | ((with_reducible refine dops_guardI (t := ?_) ?_ (fun hcQ => ?_) (fun hcQ => ?_)); rotate_left; · rfl)) <;> (have hn := hcQ; have hcondQ := hcQ) <;> (try simp only [decide_eq_true_eq, decide_eq_false_iff_not, beq_iff_eq, bne_iff_ne, ne_eq, Bool.and_eq_true, Bool.or_eq_true, Bool.not_eq_true, Bool.not_eq_false, beq_eq_false_iff_ne, bne_eq_false_iff_eq, Bool.not_eq_true', Bool.not_eq_false', Int.ofNat_lt, Int.ofNat_le, Bool.or_eq_false_iff, Bool.and_eq_false_imp, Decidable.not_not, gt_iff_lt, ge_iff_le] at hn) <;> (try (exfalso; omega)) <;> (refine Todo.of ?_)) | (((with_reducible refine dwp_condA ?_ ?_ ?_); · rfl) <;> (refine Todo.of ?_)))) <;> (try (first | (with_reducible rfl) | exact Nat.le_refl _ | exact Int.le_refl _ | assumption | omega))
  have hs := textV_same hl ra rb
  rw [ra] at ea
  rw [rb] at eb
  generalize decide (a = b) = d at ev hs
  generalize textV l t a = xa at ta hs
  generalize textV l t b = xb at tb hs
  have hd := and_bb d
  (have hcondQ := Bool.and_self; refine Todo.of ?_); (repeat' (first | ((with_reducible refine Todo.to ?_); (repeat (first | (simp only [↓rP, rT, rU, eI, eU, eB, eS, eBs, eL, eA, buildCells, sepsD, sepB, hdl, dvalX, DOp.kind, dval, frameFrom, dBin, dInt, dStr, dBeq, dUn, dLoad, cellsAt, retV, retL, DR.val, fzT, fzVs, fzV, fz1, DV.immB, IntKind.bits, dCallP, viewVs, viewV, view1, capVL, capV, viewL, noMemV, noMem, elemsOf, dAppend, dAppz, dStore, DV.one, alive, freezeAt, fzLL, fzL, bRow, bU, cellsOf, setFrom, DV.isU, lenMax, lenCap, Nat.reduceEqDiff, Nat.reduceAdd, ↓reduceIte, reduceCtorEq, Nat.reduceSub, Int.reduceToNat, Int.reducePow, Nat.reducePow, Int.reduceLE, Int.reduceLT, Nat.reduceLeDiff, Nat.reduceLT, Int.reduceBEq, Int.reduceBNe, Int.reduceEq, Int.reduceNe, Int.reduceAdd, Int.reduceSub, Int.reduceMul, Int.reduceNeg, Int.reduceTDiv, Int.reduceTMod, Int.reduceMod, Int.reduceDiv, Nat.reduceMul, forall_const, implies_true, d_norialaw06_ValApart, s_liveV_at, s_Small_at, s_Enums_at, s_RightTy_at, s_Zero_at, s_RightV_at, s_TextV_at, s_Vals_at, eEns, eIls, eImg, ePrt, ePrts, eREns, eRTy, eRows, eSs, eTy, eU8, eV2, eY, sls_len, ils_len, ils_rowsT, sls_rowsT, sls_tk0, ils_tk0, s_RightTy_at, s_CellsTy_at, ofI_p, ofI_h, only_normal, e1, e2, z2, q2, p2, ils_len, er, ez0, ez, ea, eb, ta, tb, hs, ev, hd , hcondQ]) | (simp (disch := omega) only [i64_id, u64_id, u8_id, getD_map'])))) | ((with_reducible refine And.intro ?_ ?_); · first | trivial | omega | (simp; done) | (simp; omega)) | ((first | ((with_reducible refine dwp_condI (t := ?_) ?_ (fun hcQ => ?_) (fun hcQ => ?_)); rotate_left; · rfl) | ((with_reducible refine dops_guardI (t := ?_) ?_ (fun hcQ => ?_) (fun hcQ => ?_)); rotate_left; · rfl)) <;> (have hn := hcQ; have hcondQ := hcQ) <;> (try simp only [decide_eq_true_eq, decide_eq_false_iff_not, beq_iff_eq, bne_iff_ne, ne_eq, Bool.and_eq_true, Bool.or_eq_true, Bool.not_eq_true, Bool.not_eq_false, beq_eq_false_iff_ne, bne_eq_false_iff_eq, Bool.not_eq_true', Bool.not_eq_false', Int.ofNat_lt, Int.ofNat_le, Bool.or_eq_false_iff, Bool.and_eq_false_imp, Decidable.not_not, gt_iff_lt, ge_iff_le] at hn) <;> (try (exfalso; omega)) <;> (refine Todo.of ?_)) | (((with_reducible refine dwp_condA ?_ ?_ ?_); · rfl) <;> (refine Todo.of ?_)))) <;> (try (first | (with_reducible rfl) | exact Nat.le_refl _ | exact Int.le_refl _ | assumption | omega))
noncomputable def s_lawVRight : List DV → Prop × DV := spec3 eEns eTy eIls fun l t v => (True, .bool true)
theorem s_lawVRight_at (l : List En) (t : Ty) (v : List Int) : s_lawVRight [.sl (l.map cEn), .agg (cTy t), .sl (ils v)] = (True, .bool true) := spec3_at inj_Ens inj_Ty inj_Ils _ l t v
theorem ok_norialaw06_ValRight : OkP Tryd.prog 5 s_lawVRight := by
  refine OkP.mk3 (ps := [(7, s_liveV), (6, s_Small), (15, s_One), (16, s_One), (12, s_RightV), (17, s_RightV), (13, s_Zero), (18, s_Zero), (14, s_Vals), (19, s_Kind6), (20, s_Kind6), (21, s_Vals)]) (hs := []) ⟨ok_norialaw06_live, ok_Small, ok_One, ok_refOne, ok_RightV, ok_refRightV, ok_val_Zero, ok_noriaref06_Zero, ok_noriaref01_Vals, ok_Kind6, ok_refKind6, ok_val_Same, trivial⟩ trivial m_norialaw06_ValRight fun l t v _ => ?_
  have e1 := s_Small_at l
  cases c1 : smallF l
  · rw [c1] at e1
    (have hcondQ := Bool.and_self; refine Todo.of ?_); (repeat' (first | ((with_reducible refine Todo.to ?_); (repeat (first | (simp only [↓rP, rT, rU, eI, eU, eB, eS, eBs, eL, eA, buildCells, sepsD, sepB, hdl, dvalX, DOp.kind, dval, frameFrom, dBin, dInt, dStr, dBeq, dUn, dLoad, cellsAt, retV, retL, DR.val, fzT, fzVs, fzV, fz1, DV.immB, IntKind.bits, dCallP, viewVs, viewV, view1, capVL, capV, viewL, noMemV, noMem, elemsOf, dAppend, dAppz, dStore, DV.one, alive, freezeAt, fzLL, fzL, bRow, bU, cellsOf, setFrom, DV.isU, lenMax, lenCap, Nat.reduceEqDiff, Nat.reduceAdd, ↓reduceIte, reduceCtorEq, Nat.reduceSub, Int.reduceToNat, Int.reducePow, Nat.reducePow, Int.reduceLE, Int.reduceLT, Nat.reduceLeDiff, Nat.reduceLT, Int.reduceBEq, Int.reduceBNe, Int.reduceEq, Int.reduceNe, Int.reduceAdd, Int.reduceSub, Int.reduceMul, Int.reduceNeg, Int.reduceTDiv, Int.reduceTMod, Int.reduceMod, Int.reduceDiv, Nat.reduceMul, forall_const, implies_true, d_norialaw06_ValRight, s_liveV_at, s_Small_at, s_One_at, s_One_at, s_RightV_at, s_RightV_at, s_Zero_at, s_Zero_at, s_Vals_at, s_Kind6_at, s_Kind6_at, s_Vals_at, eEns, eIls, eImg, ePrt, ePrts, eREns, eRTy, eRows, eSs, eTy, eU8, eV2, eY, sls_len, ils_len, ils_rowsT, sls_rowsT, sls_tk0, ils_tk0, s_RightTy_at, s_CellsTy_at, ofI_p, ofI_h, only_normal, e1 , hcondQ]) | (simp (disch := omega) only [i64_id, u64_id, u8_id, getD_map'])))) | ((with_reducible refine And.intro ?_ ?_); · first | trivial | omega | (simp; done) | (simp; omega)) | ((first | ((with_reducible refine dwp_condI (t := ?_) ?_ (fun hcQ => ?_) (fun hcQ => ?_)); rotate_left; · rfl) | ((with_reducible refine dops_guardI (t := ?_) ?_ (fun hcQ => ?_) (fun hcQ => ?_)); rotate_left; · rfl)) <;> (have hn := hcQ; have hcondQ := hcQ) <;> (try simp only [decide_eq_true_eq, decide_eq_false_iff_not, beq_iff_eq, bne_iff_ne, ne_eq, Bool.and_eq_true, Bool.or_eq_true, Bool.not_eq_true, Bool.not_eq_false, beq_eq_false_iff_ne, bne_eq_false_iff_eq, Bool.not_eq_true', Bool.not_eq_false', Int.ofNat_lt, Int.ofNat_le, Bool.or_eq_false_iff, Bool.and_eq_false_imp, Decidable.not_not, gt_iff_lt, ge_iff_le] at hn) <;> (try (exfalso; omega)) <;> (refine Todo.of ?_)) | (((with_reducible refine dwp_condA ?_ ?_ ?_); · rfl) <;> (refine Todo.of ?_)))) <;> (try (first | (with_reducible rfl) | exact Nat.le_refl _ | exact Int.le_refl _ | assumption | omega))
  rw [c1] at e1
  by_cases q : 20 < v.length
  · have q2 : (20 : Int) < v.length := by omega
    (have hcondQ := Bool.and_self; refine Todo.of ?_); (repeat' (first | ((with_reducible refine Todo.to ?_); (repeat (first | (simp only [↓rP, rT, rU, eI, eU, eB, eS, eBs, eL, eA, buildCells, sepsD, sepB, hdl, dvalX, DOp.kind, dval, frameFrom, dBin, dInt, dStr, dBeq, dUn, dLoad, cellsAt, retV, retL, DR.val, fzT, fzVs, fzV, fz1, DV.immB, IntKind.bits, dCallP, viewVs, viewV, view1, capVL, capV, viewL, noMemV, noMem, elemsOf, dAppend, dAppz, dStore, DV.one, alive, freezeAt, fzLL, fzL, bRow, bU, cellsOf, setFrom, DV.isU, lenMax, lenCap, Nat.reduceEqDiff, Nat.reduceAdd, ↓reduceIte, reduceCtorEq, Nat.reduceSub, Int.reduceToNat, Int.reducePow, Nat.reducePow, Int.reduceLE, Int.reduceLT, Nat.reduceLeDiff, Nat.reduceLT, Int.reduceBEq, Int.reduceBNe, Int.reduceEq, Int.reduceNe, Int.reduceAdd, Int.reduceSub, Int.reduceMul, Int.reduceNeg, Int.reduceTDiv, Int.reduceTMod, Int.reduceMod, Int.reduceDiv, Nat.reduceMul, forall_const, implies_true, d_norialaw06_ValRight, s_liveV_at, s_Small_at, s_One_at, s_One_at, s_RightV_at, s_RightV_at, s_Zero_at, s_Zero_at, s_Vals_at, s_Kind6_at, s_Kind6_at, s_Vals_at, eEns, eIls, eImg, ePrt, ePrts, eREns, eRTy, eRows, eSs, eTy, eU8, eV2, eY, sls_len, ils_len, ils_rowsT, sls_rowsT, sls_tk0, ils_tk0, s_RightTy_at, s_CellsTy_at, ofI_p, ofI_h, only_normal, e1, q2, ils_len , hcondQ]) | (simp (disch := omega) only [i64_id, u64_id, u8_id, getD_map'])))) | ((with_reducible refine And.intro ?_ ?_); · first | trivial | omega | (simp; done) | (simp; omega)) | ((first | ((with_reducible refine dwp_condI (t := ?_) ?_ (fun hcQ => ?_) (fun hcQ => ?_)); rotate_left; · rfl) | ((with_reducible refine dops_guardI (t := ?_) ?_ (fun hcQ => ?_) (fun hcQ => ?_)); rotate_left; · rfl)) <;> (have hn := hcQ; have hcondQ := hcQ) <;> (try simp only [decide_eq_true_eq, decide_eq_false_iff_not, beq_iff_eq, bne_iff_ne, ne_eq, Bool.and_eq_true, Bool.or_eq_true, Bool.not_eq_true, Bool.not_eq_false, beq_eq_false_iff_ne, bne_eq_false_iff_eq, Bool.not_eq_true', Bool.not_eq_false', Int.ofNat_lt, Int.ofNat_le, Bool.or_eq_false_iff, Bool.and_eq_false_imp, Decidable.not_not, gt_iff_lt, ge_iff_le] at hn) <;> (try (exfalso; omega)) <;> (refine Todo.of ?_)) | (((with_reducible refine dwp_condA ?_ ?_ ?_); · rfl) <;> (refine Todo.of ?_)))) <;> (try (first | (with_reducible rfl) | exact Nat.le_refl _ | exact Int.le_refl _ | assumption | omega))
  have q2 : ¬ (20 : Int) < v.length := by omega
  (have hcondQ := Bool.and_self; refine Todo.of ?_); (repeat' (first | ((with_reducible refine Todo.to ?_); (repeat (first | (simp only [↓rP, rT, rU, eI, eU, eB, eS, eBs, eL, eA, buildCells, sepsD, sepB, hdl, dvalX, DOp.kind, dval, frameFrom, dBin, dInt, dStr, dBeq, dUn, dLoad, cellsAt, retV, retL, DR.val, fzT, fzVs, fzV, fz1, DV.immB, IntKind.bits, dCallP, viewVs, viewV, view1, capVL, capV, viewL, noMemV, noMem, elemsOf, dAppend, dAppz, dStore, DV.one, alive, freezeAt, fzLL, fzL, bRow, bU, cellsOf, setFrom, DV.isU, lenMax, lenCap, Nat.reduceEqDiff, Nat.reduceAdd, ↓reduceIte, reduceCtorEq, Nat.reduceSub, Int.reduceToNat, Int.reducePow, Nat.reducePow, Int.reduceLE, Int.reduceLT, Nat.reduceLeDiff, Nat.reduceLT, Int.reduceBEq, Int.reduceBNe, Int.reduceEq, Int.reduceNe, Int.reduceAdd, Int.reduceSub, Int.reduceMul, Int.reduceNeg, Int.reduceTDiv, Int.reduceTMod, Int.reduceMod, Int.reduceDiv, Nat.reduceMul, forall_const, implies_true, d_norialaw06_ValRight, s_liveV_at, s_Small_at, s_One_at, s_One_at, s_RightV_at, s_RightV_at, s_Zero_at, s_Zero_at, s_Vals_at, s_Kind6_at, s_Kind6_at, s_Vals_at, eEns, eIls, eImg, ePrt, ePrts, eREns, eRTy, eRows, eSs, eTy, eU8, eV2, eY, sls_len, ils_len, ils_rowsT, sls_rowsT, sls_tk0, ils_tk0, s_RightTy_at, s_CellsTy_at, ofI_p, ofI_h, only_normal, e1, q2, ils_len , hcondQ]) | (simp (disch := omega) only [i64_id, u64_id, u8_id, getD_map'])))) | ((with_reducible refine And.intro ?_ ?_); · first | trivial | omega | (simp; done) | (simp; omega)) | ((first | ((with_reducible refine dwp_condI (t := ?_) ?_ (fun hcQ => ?_) (fun hcQ => ?_)); rotate_left; · rfl) | ((with_reducible refine dops_guardI (t := ?_) ?_ (fun hcQ => ?_) (fun hcQ => ?_)); rotate_left; · rfl)) <;> (have hn := hcQ; have hcondQ := hcQ) <;> (try simp only [decide_eq_true_eq, decide_eq_false_iff_not, beq_iff_eq, bne_iff_ne, ne_eq, Bool.and_eq_true, Bool.or_eq_true, Bool.not_eq_true, Bool.not_eq_false, beq_eq_false_iff_ne, bne_eq_false_iff_eq, Bool.not_eq_true', Bool.not_eq_false', Int.ofNat_lt, Int.ofNat_le, Bool.or_eq_false_iff, Bool.and_eq_false_imp, Decidable.not_not, gt_iff_lt, ge_iff_le] at hn) <;> (try (exfalso; omega)) <;> (refine Todo.of ?_)) | (((with_reducible refine dwp_condA ?_ ?_ ?_); · rfl) <;> (refine Todo.of ?_)))) <;> (try (first | (with_reducible rfl) | exact Nat.le_refl _ | exact Int.le_refl _ | assumption | omega))
  refine dwp_each v (fun (k : Nat) (_ : Unit) => ⟨[(0, .sl (l.map cEn)), (2, .sl (ils v)), (4, .ref (cTy t)), (7, .int .i64 k)], []⟩) (fun _ _ _ => True) () (Nat.zero_le _) (by simp only [cut_some, cut_none, List.map_cons, List.map_nil, get_cons, Nk.get_nil, Nat.reduceEqDiff, ↓reduceIte, Nat.succ_ne_self, DV.cut, DV.inB, DObj.cut, List.take_nil, List.take_zero, if_true, Nat.zero_ne_one, Nat.one_ne_zero, DV.inBL, Bool.and_true, Bool.true_and, reduceCtorEq, Nat.zero_lt_one, decide_true, decide_false, Nat.reduceLT, List.take_succ_cons, Int.natCast_add, Int.natCast_one, List.length_append, List.length_cons, List.length_nil, Nat.zero_add] <;> rfl) trivial (fun k x rr _ d hx hd _ => ?_) fun k _ hk _ => ?_
  · have w : IntKind.i64.wrap ((k : Int) + 1) = ((k + 1 : Nat) : Int) := by rw [wrap_i64_id (by omega)]; omega
    have k0 : (0 : Int) ≤ k := Int.natCast_nonneg k
    have eo := s_One_at l t x
    simp only [cTy] at eo
    generalize oneF l t x = o at eo
    have ho : (o != o) = false := by cases o <;> rfl
    (have hcondQ := Bool.and_self; refine Todo.of ?_); (repeat' (first | ((with_reducible refine Todo.to ?_); (repeat (first | (simp only [↓rP, rT, rU, eI, eU, eB, eS, eBs, eL, eA, buildCells, sepsD, sepB, hdl, dvalX, DOp.kind, dval, frameFrom, dBin, dInt, dStr, dBeq, dUn, dLoad, cellsAt, retV, retL, DR.val, fzT, fzVs, fzV, fz1, DV.immB, IntKind.bits, dCallP, viewVs, viewV, view1, capVL, capV, viewL, noMemV, noMem, elemsOf, dAppend, dAppz, dStore, DV.one, alive, freezeAt, fzLL, fzL, bRow, bU, cellsOf, setFrom, DV.isU, lenMax, lenCap, Nat.reduceEqDiff, Nat.reduceAdd, ↓reduceIte, reduceCtorEq, Nat.reduceSub, Int.reduceToNat, Int.reducePow, Nat.reducePow, Int.reduceLE, Int.reduceLT, Nat.reduceLeDiff, Nat.reduceLT, Int.reduceBEq, Int.reduceBNe, Int.reduceEq, Int.reduceNe, Int.reduceAdd, Int.reduceSub, Int.reduceMul, Int.reduceNeg, Int.reduceTDiv, Int.reduceTMod, Int.reduceMod, Int.reduceDiv, Nat.reduceMul, forall_const, implies_true, d_norialaw06_ValRight, s_liveV_at, s_Small_at, s_One_at, s_One_at, s_RightV_at, s_RightV_at, s_Zero_at, s_Zero_at, s_Vals_at, s_Kind6_at, s_Kind6_at, s_Vals_at, eEns, eIls, eImg, ePrt, ePrts, eREns, eRTy, eRows, eSs, eTy, eU8, eV2, eY, sls_len, ils_len, ils_rowsT, sls_rowsT, sls_tk0, ils_tk0, s_RightTy_at, s_CellsTy_at, ofI_p, ofI_h, only_normal, d, k0, ils_at hx, w, eo, ho, ils_len , hcondQ]) | (simp (disch := omega) only [i64_id, u64_id, u8_id, getD_map'])))) | ((with_reducible refine And.intro ?_ ?_); · first | trivial | omega | (simp; done) | (simp; omega)) | ((first | ((with_reducible refine dwp_condI (t := ?_) ?_ (fun hcQ => ?_) (fun hcQ => ?_)); rotate_left; · rfl) | ((with_reducible refine dops_guardI (t := ?_) ?_ (fun hcQ => ?_) (fun hcQ => ?_)); rotate_left; · rfl)) <;> (have hn := hcQ; have hcondQ := hcQ) <;> (try simp only [decide_eq_true_eq, decide_eq_false_iff_not, beq_iff_eq, bne_iff_ne, ne_eq, Bool.and_eq_true, Bool.or_eq_true, Bool.not_eq_true, Bool.not_eq_false, beq_eq_false_iff_ne, bne_eq_false_iff_eq, Bool.not_eq_true', Bool.not_eq_false', Int.ofNat_lt, Int.ofNat_le, Bool.or_eq_false_iff, Bool.and_eq_false_imp, Decidable.not_not, gt_iff_lt, ge_iff_le] at hn) <;> (try (exfalso; omega)) <;> (refine Todo.of ?_)) | (((with_reducible refine dwp_condA ?_ ?_ ?_); · rfl) <;> (refine Todo.of ?_)))) <;> (try (first | (with_reducible rfl) | exact Nat.le_refl _ | exact Int.le_refl _ | assumption | omega))
    all_goals first | omega | exact ⟨(), trivial⟩ | exact ⟨(), by simp only [cut_some, cut_none, List.map_cons, List.map_nil, get_cons, Nk.get_nil, Nat.reduceEqDiff, ↓reduceIte, Nat.succ_ne_self, DV.cut, DV.inB, DObj.cut, List.take_nil, List.take_zero, if_true, Nat.zero_ne_one, Nat.one_ne_zero, DV.inBL, Bool.and_true, Bool.true_and, reduceCtorEq, Nat.zero_lt_one, decide_true, decide_false, Nat.reduceLT, List.take_succ_cons, Int.natCast_add, Int.natCast_one, List.length_append, List.length_cons, List.length_nil, Nat.zero_add] <;> rfl⟩
  · have d2 : ¬ k < v.length := by omega
    have er := s_RightV_at l t v
    rw [eq_true (show v.length ≤ 1000000000 by omega)] at er
    have ez := s_Zero_at t
    have ek := s_Kind_at t
    have hzl : (zeroV t).length ≤ 17592186044416 := by
      have := cellsTy_b t
      unfold zeroV; rw [List.length_replicate]; omega
    have v1 := s_Vals_at (zeroV t) (zeroV t)
    rw [eq_true hzl, decide_eq_true rfl] at v1
    have v2 := s_Vals_at v (zeroV t)
    rw [eq_true (show v.length ≤ 17592186044416 by omega)] at v2
    simp only [cTy] at er ez ek
    generalize zeroV t = z at ez v1 v2
    generalize kindV t = kv at ek
    generalize rightV l t v = r at er
    generalize decide (v = z) = d at v2
    have hr := and_bb r
    have hd := and_bb d
    (have hcondQ := Bool.and_self; refine Todo.of ?_); (repeat' (first | ((with_reducible refine Todo.to ?_); (repeat (first | (simp only [↓rP, rT, rU, eI, eU, eB, eS, eBs, eL, eA, buildCells, sepsD, sepB, hdl, dvalX, DOp.kind, dval, frameFrom, dBin, dInt, dStr, dBeq, dUn, dLoad, cellsAt, retV, retL, DR.val, fzT, fzVs, fzV, fz1, DV.immB, IntKind.bits, dCallP, viewVs, viewV, view1, capVL, capV, viewL, noMemV, noMem, elemsOf, dAppend, dAppz, dStore, DV.one, alive, freezeAt, fzLL, fzL, bRow, bU, cellsOf, setFrom, DV.isU, lenMax, lenCap, Nat.reduceEqDiff, Nat.reduceAdd, ↓reduceIte, reduceCtorEq, Nat.reduceSub, Int.reduceToNat, Int.reducePow, Nat.reducePow, Int.reduceLE, Int.reduceLT, Nat.reduceLeDiff, Nat.reduceLT, Int.reduceBEq, Int.reduceBNe, Int.reduceEq, Int.reduceNe, Int.reduceAdd, Int.reduceSub, Int.reduceMul, Int.reduceNeg, Int.reduceTDiv, Int.reduceTMod, Int.reduceMod, Int.reduceDiv, Nat.reduceMul, forall_const, implies_true, d_norialaw06_ValRight, s_liveV_at, s_Small_at, s_One_at, s_One_at, s_RightV_at, s_RightV_at, s_Zero_at, s_Zero_at, s_Vals_at, s_Kind6_at, s_Kind6_at, s_Vals_at, eEns, eIls, eImg, ePrt, ePrts, eREns, eRTy, eRows, eSs, eTy, eU8, eV2, eY, sls_len, ils_len, ils_rowsT, sls_rowsT, sls_tk0, ils_tk0, s_RightTy_at, s_CellsTy_at, ofI_p, ofI_h, only_normal, d2, er, ez, ek, v1, v2, hr, hd, ils_len, beq_self_eq_true , hcondQ]) | (simp (disch := omega) only [i64_id, u64_id, u8_id, getD_map'])))) | ((with_reducible refine And.intro ?_ ?_); · first | trivial | omega | (simp; done) | (simp; omega)) | ((first | ((with_reducible refine dwp_condI (t := ?_) ?_ (fun hcQ => ?_) (fun hcQ => ?_)); rotate_left; · rfl) | ((with_reducible refine dops_guardI (t := ?_) ?_ (fun hcQ => ?_) (fun hcQ => ?_)); rotate_left; · rfl)) <;> (have hn := hcQ; have hcondQ := hcQ) <;> (try simp only [decide_eq_true_eq, decide_eq_false_iff_not, beq_iff_eq, bne_iff_ne, ne_eq, Bool.and_eq_true, Bool.or_eq_true, Bool.not_eq_true, Bool.not_eq_false, beq_eq_false_iff_ne, bne_eq_false_iff_eq, Bool.not_eq_true', Bool.not_eq_false', Int.ofNat_lt, Int.ofNat_le, Bool.or_eq_false_iff, Bool.and_eq_false_imp, Decidable.not_not, gt_iff_lt, ge_iff_le] at hn) <;> (try (exfalso; omega)) <;> (refine Todo.of ?_)) | (((with_reducible refine dwp_condA ?_ ?_ ?_); · rfl) <;> (refine Todo.of ?_)))) <;> (try (first | (with_reducible rfl) | exact Nat.le_refl _ | exact Int.le_refl _ | assumption | omega))

/-! Every argument. -/
theorem reads_Nms : Reads (.slice .str) (fun l : List (List UInt8) => [.sl (sls l)]) (fun _ => True) :=
  Reads.as (Reads.slice Reads.str) (fun l => l) (fun _ => rfl) (fun _ _ => trivial)
theorem reads_EnT : Reads (.struct [.str, .slice .str]) cEn (fun _ => True) :=
  Reads.as (Reads.struct (Reads.cons Reads.str (Reads.cons reads_Nms Reads.nil))) (fun x => ⟨x.1, x.2.1⟩) (fun _ => rfl) (fun _ _ => trivial)
theorem reads_EnsT : Reads (.slice (.struct [.str, .slice .str])) (fun m : List En => [.sl (m.map cEn)]) (fun _ => True) :=
  Reads.as (Reads.slice reads_EnT) (fun l => l) (fun _ => rfl) (fun _ _ => trivial)
theorem reads_Ty1 : Reads (.struct [.int .i64, .int .i64, .int .i64]) cTy (fun _ => True) :=
  Reads.as (Reads.struct (Reads.cons Reads.int (Reads.cons Reads.int (Reads.cons Reads.int Reads.nil)))) (fun x => ⟨x.1, x.2.1, x.2.2.1⟩) (fun _ => rfl) (fun _ _ => trivial)
theorem reads_Ns : Reads (.slice (.int .i64)) (fun l : List Int => [.sl (ils l)]) okI :=
  Reads.as Reads.i64s (fun l => l) (fun _ => rfl) (fun _ h => h.2)
theorem reads_V2 : Reads (.struct [.slice (.int .i64), .slice (.int .i64)]) (fun x : List Int × List Int => [.sl (ils x.1), .sl (ils x.2)]) (fun x => okI x.1 ∧ okI x.2) :=
  Reads.as (Reads.struct (Reads.cons reads_Ns (Reads.cons reads_Ns Reads.nil))) (fun x => (x.1, x.2.1)) (fun _ => rfl) (fun _ h => ⟨h.1, h.2.1⟩)
theorem valTexts_tells (dvs : List DV) (h : HasAll Tryd.prog [22, 24, 25] dvs) : TellsP Tryd.prog 3 dvs (.bool true) := by
  obtain ⟨d1, r, rfl, h1, d2, r', rfl, h2, d3, r3, rfl, h3, rfl⟩ := h
  obtain ⟨a, ha, _⟩ := HasV_one (by kernel_rfl) rfl reads_EnsT h1
  obtain ⟨t, rfl, _⟩ := HasV_agg (by kernel_rfl) reads_Ty1 h2
  obtain ⟨v, hv, hw⟩ := HasV_one (by kernel_rfl) rfl reads_Ns h3
  injection ha with ha; injection hv with hv
  subst ha hv
  have e := s_lawTexts_at a t v
  have := (ok_norialaw06_ValTexts _ (by rw [e]; exact hw)).2
  rw [e] at this
  exact this
theorem valRight_tells (dvs : List DV) (h : HasAll Tryd.prog [22, 24, 25] dvs) : TellsP Tryd.prog 5 dvs (.bool true) := by
  obtain ⟨d1, r, rfl, h1, d2, r', rfl, h2, d3, r3, rfl, h3, rfl⟩ := h
  obtain ⟨a, ha, _⟩ := HasV_one (by kernel_rfl) rfl reads_EnsT h1
  obtain ⟨t, rfl, _⟩ := HasV_agg (by kernel_rfl) reads_Ty1 h2
  obtain ⟨v, hv, hw⟩ := HasV_one (by kernel_rfl) rfl reads_Ns h3
  injection ha with ha; injection hv with hv
  subst ha hv
  have e := s_lawVRight_at a t v
  have := (ok_norialaw06_ValRight _ (by rw [e]; trivial)).2
  rw [e] at this
  exact this
theorem valApart_tells (dvs : List DV) (h : HasAll Tryd.prog [22, 24, 30] dvs) : TellsP Tryd.prog 4 dvs (.bool true) := by
  obtain ⟨d1, r, rfl, h1, d2, r', rfl, h2, d3, r3, rfl, h3, rfl⟩ := h
  obtain ⟨a, ha, _⟩ := HasV_one (by kernel_rfl) rfl reads_EnsT h1
  obtain ⟨t, rfl, _⟩ := HasV_agg (by kernel_rfl) reads_Ty1 h2
  obtain ⟨v, rfl, hw⟩ := HasV_agg (by kernel_rfl) reads_V2 h3
  injection ha with ha
  subst ha
  have e := s_lawApart_at a t v
  have := (ok_norialaw06_ValApart _ (by rw [e]; exact hw)).2
  rw [e] at this
  exact this
end Go.Proofs.YtaoabkpfidbogaaDoor

