/- The document's store. -/
import Derived.Test.YtfjddinibppmdaaSlJ
set_option linter.all false
set_option maxRecDepth 20000
namespace Go.Proofs.Ytfjddinibppmdaa
open Go.Nk

@[reducible] def cW (a : As) : List DV :=
  [.bool a.h.there, .sl (a.h.x.en.map cEn), .sl (a.h.x.ins.map cPrt), .sl (a.h.x.outs.map cPrt), .sl (a.h.x.slots.map cSlt), .sl (ils a.h.x.loc), .sl (a.h.x.code.map cIn4), .sl (ils a.h.st),
    .bool a.o.there, .sl (a.o.x.en.map cEn), .sl (a.o.x.ins.map cPrt), .sl (a.o.x.outs.map cPrt), .sl (a.o.x.slots.map cSlt), .sl (ils a.o.x.loc), .sl (a.o.x.code.map cIn4), .sl (ils a.o.st), .int .i64 a.c]
def oW (a : As) : DObj := ⟨.loc, 17, [cW a]⟩
theorem oW_inj {a a' : As} (h : oW a = oW a') : a = a' := by
  obtain ⟨⟨t, x, s⟩, ⟨t', x', s'⟩, c⟩ := a
  obtain ⟨⟨u, y, r⟩, ⟨u', y', r'⟩, d⟩ := a'
  unfold oW at h
  simp only [DObj.mk.injEq, List.cons.injEq, DV.bool.injEq, DV.sl.injEq, DV.int.injEq, true_and, and_true] at h
  obtain ⟨rfl, a1, a2, a3, a4, a5, a6, a7, rfl, b1, b2, b3, b4, b5, b6, b7, rfl⟩ := h
  rw [img_eq a1 a2 a3 a4 a5 a6, ils_inj a7, img_eq b1 b2 b3 b4 b5 b6, ils_inj b7]
theorem oW_cut (a : As) (L : Nat) : (oW a).cut L = oW a := rfl
theorem w_get {hp : List DObj} {k : Nat} {a a' : As} (h : hp[k]? = some (oW a)) (h' : hp[k]? = some (oW a')) : a = a' := oW_inj (Option.some.inj (h.symm.trans h'))
theorem fit_is (x : Img) (l : List Int) : ((l.length : Int) == sumC x.slots) = misB x l := by
  unfold misB missF
  rw [Bool.eq_iff_iff, beq_iff_eq, beq_iff_eq]
  simp only
  omega
noncomputable def s_fits : List DV → Prop × DV := spec2 eImg eIls fun x l => (okXL x l, .bool (misB x l))
theorem s_fits_at (x : Img) (l : List Int) : s_fits [.agg (cImg x), .sl (ils l)] = (okXL x l, .bool (misB x l)) := spec2_at inj_Img inj_Ils _ x l
theorem ok_noriaref42_fits : OkP Try.prog 50 s_fits := by
  refine OkP.mk2 (ps := [(51, s_SumC)]) (hs := []) ⟨ok_refSumC, trivial⟩ trivial m_noriaref42_fits fun x l h => ?_
  try dsimp only at h
  have e := s_SumC_at x.slots
  rw [eq_true (show x.slots.length ≤ 1000000000 by have := h.1; omega)] at e
  have f := fit_is x l
  (have hcondQ := Bool.and_self; refine Todo.of ?_); (repeat' (first | ((with_reducible refine Todo.to ?_); (repeat (first | (simp only [↓rP, rT, rU, eI, eU, eB, eS, eBs, eL, eA, buildCells, sepsD, sepB, hdl, dvalX, DOp.kind, dval, frameFrom, dBin, dInt, dStr, dBeq, dUn, dLoad, cellsAt, retV, retL, DR.val, fzT, fzVs, fzV, fz1, DV.immB, IntKind.bits, dCallP, viewVs, viewV, view1, capVL, capV, viewL, noMemV, noMem, elemsOf, dAppend, dAppz, dStore, DV.one, alive, freezeAt, fzLL, fzL, bRow, bU, cellsOf, setFrom, DV.isU, lenMax, lenCap, Nat.reduceEqDiff, Nat.reduceAdd, ↓reduceIte, reduceCtorEq, Nat.reduceSub, Int.reduceToNat, Int.reducePow, Nat.reducePow, Int.reduceLE, Int.reduceLT, Nat.reduceLeDiff, Nat.reduceLT, Int.reduceBEq, Int.reduceBNe, Int.reduceEq, Int.reduceNe, Int.reduceAdd, Int.reduceSub, Int.reduceMul, Int.reduceNeg, Int.reduceTDiv, Int.reduceTMod, Int.reduceMod, Int.reduceDiv, Nat.reduceMul, forall_const, implies_true, d_noriaref42_fits, s_SumC_at, eEns, eIls, eImg, ePrt, ePrts, eRows, eSs, eTy, eVn, eY, sls_len, ils_len, ils_rowsT, sls_rowsT, sls_tk0, ils_tk0, e, f, ils_len , hcondQ]) | (simp (disch := omega) only [i64_id, u64_id, u8_id, getD_map'])))) | ((with_reducible refine And.intro ?_ ?_); · first | trivial | omega | (simp; done) | (simp; omega)) | ((first | ((with_reducible refine dwp_condI (t := ?_) ?_ (fun hcQ => ?_) (fun hcQ => ?_)); rotate_left; · rfl) | ((with_reducible refine dops_guardI (t := ?_) ?_ (fun hcQ => ?_) (fun hcQ => ?_)); rotate_left; · rfl)) <;> (have hn := hcQ; have hcondQ := hcQ) <;> (try simp only [decide_eq_true_eq, decide_eq_false_iff_not, beq_iff_eq, bne_iff_ne, ne_eq, Bool.and_eq_true, Bool.or_eq_true, Bool.not_eq_true, Bool.not_eq_false, beq_eq_false_iff_ne, bne_eq_false_iff_eq, Bool.not_eq_true', Bool.not_eq_false', Int.ofNat_lt, Int.ofNat_le, Bool.or_eq_false_iff, Bool.and_eq_false_imp, Decidable.not_not, gt_iff_lt, ge_iff_le] at hn) <;> (try (exfalso; omega)) <;> (refine Todo.of ?_)) | (((with_reducible refine dwp_condA ?_ ?_ ?_); · rfl) <;> (refine Todo.of ?_)))) <;> (try (first | (with_reducible rfl) | exact Nat.le_refl _ | exact Int.le_refl _ | assumption | omega))

def rWd (y : Nat × As) (a : List DV) (hp : List DObj) : Prop := a = [.ptr y.1 1 0 0] ∧ hp[y.1]? = some (oW y.2)
theorem rWd_u : ∀ x y a hp, rWd x a hp → rWd y a hp → x = y := by
  rintro ⟨k, a⟩ ⟨k', a'⟩ l hp ⟨rfl, h⟩ ⟨e, h'⟩
  simp only [List.cons.injEq, DV.ptr.injEq, and_true] at e
  subst e
  have e9 : a = a' := w_get h h'
  rw [e9]
def rWi (y : Nat × As × Img) (a : List DV) (hp : List DObj) : Prop := a = [.ptr y.1 1 0 0, .agg (cImg y.2.2)] ∧ hp[y.1]? = some (oW y.2.1)
theorem rWi_u : ∀ x y a hp, rWi x a hp → rWi y a hp → x = y := by
  rintro ⟨k, a, x⟩ ⟨k', a', x'⟩ l hp ⟨rfl, h⟩ ⟨e, h'⟩
  simp only [List.cons.injEq, DV.ptr.injEq, DV.agg.injEq, DV.sl.injEq, and_true] at e
  obtain ⟨rfl, a1, a2, a3, a4, a5, a6⟩ := e
  have e9 : a = a' := w_get h h'
  rw [e9, img_eq a1 a2 a3 a4 a5 a6]
def rWl (y : Nat × As × List Int) (a : List DV) (hp : List DObj) : Prop := a = [.ptr y.1 1 0 0, .sl (ils y.2.2)] ∧ hp[y.1]? = some (oW y.2.1)
theorem rWl_u : ∀ x y a hp, rWl x a hp → rWl y a hp → x = y := by
  rintro ⟨k, a, x⟩ ⟨k', a', x'⟩ l hp ⟨rfl, h⟩ ⟨e, h'⟩
  simp only [List.cons.injEq, DV.ptr.injEq, DV.sl.injEq, and_true] at e
  obtain ⟨rfl, e⟩ := e
  have e9 : a = a' := w_get h h'
  rw [e9, ils_inj e]
def rWil (y : Nat × As × Img × List Int) (a : List DV) (hp : List DObj) : Prop := a = [.ptr y.1 1 0 0, .agg (cImg y.2.2.1), .sl (ils y.2.2.2)] ∧ hp[y.1]? = some (oW y.2.1)
theorem rWil_u : ∀ x y a hp, rWil x a hp → rWil y a hp → x = y := by
  rintro ⟨k, a, x, s⟩ ⟨k', a', x', s'⟩ l hp ⟨rfl, h⟩ ⟨e, h'⟩
  simp only [List.cons.injEq, DV.ptr.injEq, DV.agg.injEq, DV.sl.injEq, and_true] at e
  obtain ⟨rfl, ⟨a1, a2, a3, a4, a5, a6⟩, e⟩ := e
  have e9 : a = a' := w_get h h'
  rw [e9, img_eq a1 a2 a3 a4 a5 a6, ils_inj e]
noncomputable def s_wDrop : List DV → List DObj → Res := specG rWd (fun _ => (True, .tup [])) (fun y hp => one hp y.1 (oW (dropA y.2)))
theorem s_wDrop_at {hp : List DObj} {k : Nat} {a : As} (h : hp[k]? = some (oW a)) : s_wDrop [.ptr k 1 0 0] hp = ⟨True, .tup [], one hp k (oW (dropA a))⟩ := specG_at (x := (k, a)) rWd_u ⟨rfl, h⟩
theorem ok_wDrop : OkH Try.prog 39 s_wDrop := by
  refine OkH.mkG (ps := []) (hs := []) trivial trivial m_noriaref42_W_Drop (fun x a hp h => by rw [h.1]; rfl) (fun y a hp h _ => ?_)
  obtain ⟨k, a⟩ := y
  obtain ⟨rfl, o⟩ := h
  simp only [oW, cW] at o
  have hk := (List.getElem?_eq_some_iff.1 o).1
  have o2 : ∀ X, (hp.set k X)[k]? = some X := fun X => List.getElem?_set_self hk
  
  (have hcondQ := Bool.and_self; refine Todo.of ?_); (repeat' (first | ((with_reducible refine Todo.to ?_); (repeat (first | (simp only [↓rP, rT, rU, eI, eU, eB, eS, eBs, eL, eA, buildCells, sepsD, sepB, hdl, dvalX, DOp.kind, dval, frameFrom, dBin, dInt, dStr, dBeq, dUn, dLoad, cellsAt, retV, retL, DR.val, fzT, fzVs, fzV, fz1, DV.immB, IntKind.bits, dCallP, viewVs, viewV, view1, capVL, capV, viewL, noMemV, noMem, elemsOf, dAppend, dAppz, dStore, DV.one, alive, freezeAt, fzLL, fzL, bRow, bU, cellsOf, setFrom, DV.isU, lenMax, lenCap, Nat.reduceEqDiff, Nat.reduceAdd, ↓reduceIte, reduceCtorEq, Nat.reduceSub, Int.reduceToNat, Int.reducePow, Nat.reducePow, Int.reduceLE, Int.reduceLT, Nat.reduceLeDiff, Nat.reduceLT, Int.reduceBEq, Int.reduceBNe, Int.reduceEq, Int.reduceNe, Int.reduceAdd, Int.reduceSub, Int.reduceMul, Int.reduceNeg, Int.reduceTDiv, Int.reduceTMod, Int.reduceMod, Int.reduceDiv, Nat.reduceMul, forall_const, implies_true, d_noriaref42_W_Drop, eEns, eIls, eImg, ePrt, ePrts, eRows, eSs, eTy, eVn, eY, sls_len, ils_len, ils_rowsT, sls_rowsT, sls_tk0, ils_tk0, o, o2, one_len, List.drop_succ_cons, endC_normal, endC_ret , hcondQ]) | (simp (disch := omega) only [i64_id, u64_id, u8_id, getD_map'])))) | ((with_reducible refine And.intro ?_ ?_); · first | trivial | omega | (simp; done) | (simp; omega)) | ((first | ((with_reducible refine dwp_condI (t := ?_) ?_ (fun hcQ => ?_) (fun hcQ => ?_)); rotate_left; · rfl) | ((with_reducible refine dops_guardI (t := ?_) ?_ (fun hcQ => ?_) (fun hcQ => ?_)); rotate_left; · rfl)) <;> (have hn := hcQ; have hcondQ := hcQ) <;> (try simp only [decide_eq_true_eq, decide_eq_false_iff_not, beq_iff_eq, bne_iff_ne, ne_eq, Bool.and_eq_true, Bool.or_eq_true, Bool.not_eq_true, Bool.not_eq_false, beq_eq_false_iff_ne, bne_eq_false_iff_eq, Bool.not_eq_true', Bool.not_eq_false', Int.ofNat_lt, Int.ofNat_le, Bool.or_eq_false_iff, Bool.and_eq_false_imp, Decidable.not_not, gt_iff_lt, ge_iff_le] at hn) <;> (try (exfalso; omega)) <;> (refine Todo.of ?_)) | (((with_reducible refine dwp_condA ?_ ?_ ?_); · rfl) <;> (refine Todo.of ?_)))) <;> (try (first | (with_reducible rfl) | exact Nat.le_refl _ | exact Int.le_refl _ | assumption | omega))
  refine ⟨⟨[], ?_⟩, one_end (oW_cut _ _)⟩
  rw [List.append_nil]
  rfl
noncomputable def s_wMany : List DV → List DObj → Res := specG rWd (fun y => (True, .int .i64 (if y.2.o.there then y.2.o.st.length else -1))) (fun _ hp => hp)
theorem s_wMany_at {hp : List DObj} {k : Nat} {a : As} (h : hp[k]? = some (oW a)) : s_wMany [.ptr k 1 0 0] hp = ⟨True, .int .i64 (if a.o.there then a.o.st.length else -1), hp⟩ := specG_at (x := (k, a)) rWd_u ⟨rfl, h⟩
theorem ok_wMany : OkH Try.prog 20 s_wMany := by
  refine OkH.mkG (ps := []) (hs := []) trivial trivial m_noriaref42_W_Many (fun x a hp h => by rw [h.1]; rfl) (fun y a hp h _ => ?_)
  obtain ⟨k, a⟩ := y
  obtain ⟨rfl, o⟩ := h
  simp only [oW, cW] at o
  
  rcases bcases a.o.there with t | t
  all_goals
    simp only [t, Bool.false_eq_true, if_true, if_false] at o ⊢
    (have hcondQ := Bool.and_self; refine Todo.of ?_); (repeat' (first | ((with_reducible refine Todo.to ?_); (repeat (first | (simp only [↓rP, rT, rU, eI, eU, eB, eS, eBs, eL, eA, buildCells, sepsD, sepB, hdl, dvalX, DOp.kind, dval, frameFrom, dBin, dInt, dStr, dBeq, dUn, dLoad, cellsAt, retV, retL, DR.val, fzT, fzVs, fzV, fz1, DV.immB, IntKind.bits, dCallP, viewVs, viewV, view1, capVL, capV, viewL, noMemV, noMem, elemsOf, dAppend, dAppz, dStore, DV.one, alive, freezeAt, fzLL, fzL, bRow, bU, cellsOf, setFrom, DV.isU, lenMax, lenCap, Nat.reduceEqDiff, Nat.reduceAdd, ↓reduceIte, reduceCtorEq, Nat.reduceSub, Int.reduceToNat, Int.reducePow, Nat.reducePow, Int.reduceLE, Int.reduceLT, Nat.reduceLeDiff, Nat.reduceLT, Int.reduceBEq, Int.reduceBNe, Int.reduceEq, Int.reduceNe, Int.reduceAdd, Int.reduceSub, Int.reduceMul, Int.reduceNeg, Int.reduceTDiv, Int.reduceTMod, Int.reduceMod, Int.reduceDiv, Nat.reduceMul, forall_const, implies_true, d_noriaref42_W_Many, eEns, eIls, eImg, ePrt, ePrts, eRows, eSs, eTy, eVn, eY, sls_len, ils_len, ils_rowsT, sls_rowsT, sls_tk0, ils_tk0, o, ils_len, List.drop_succ_cons, endC_normal, endC_ret , hcondQ]) | (simp (disch := omega) only [i64_id, u64_id, u8_id, getD_map'])))) | ((with_reducible refine And.intro ?_ ?_); · first | trivial | omega | (simp; done) | (simp; omega)) | ((first | ((with_reducible refine dwp_condI (t := ?_) ?_ (fun hcQ => ?_) (fun hcQ => ?_)); rotate_left; · rfl) | ((with_reducible refine dops_guardI (t := ?_) ?_ (fun hcQ => ?_) (fun hcQ => ?_)); rotate_left; · rfl)) <;> (have hn := hcQ; have hcondQ := hcQ) <;> (try simp only [decide_eq_true_eq, decide_eq_false_iff_not, beq_iff_eq, bne_iff_ne, ne_eq, Bool.and_eq_true, Bool.or_eq_true, Bool.not_eq_true, Bool.not_eq_false, beq_eq_false_iff_ne, bne_eq_false_iff_eq, Bool.not_eq_true', Bool.not_eq_false', Int.ofNat_lt, Int.ofNat_le, Bool.or_eq_false_iff, Bool.and_eq_false_imp, Decidable.not_not, gt_iff_lt, ge_iff_le] at hn) <;> (try (exfalso; omega)) <;> (refine Todo.of ?_)) | (((with_reducible refine dwp_condA ?_ ?_ ?_); · rfl) <;> (refine Todo.of ?_)))) <;> (try (first | (with_reducible rfl) | exact Nat.le_refl _ | exact Int.le_refl _ | assumption | omega))
    exact same_end
noncomputable def s_wStage : List DV → List DObj → Res := specG rWi (fun y => (True, .bool y.2.1.h.there)) (fun y hp => one hp y.1 (oW (stageA y.2.1 y.2.2)))
theorem s_wStage_at {hp : List DObj} {k : Nat} {a : As} {x : Img} (h : hp[k]? = some (oW a)) : s_wStage [.ptr k 1 0 0, .agg (cImg x)] hp = ⟨True, .bool a.h.there, one hp k (oW (stageA a x))⟩ := specG_at (x := (k, a, x)) rWi_u ⟨rfl, h⟩
theorem w_same {hp : List DObj} {k : Nat} {a : As} (o : hp[k]? = some (oW a)) : one hp k (oW a) = hp := one_is o
theorem ok_wStage : OkH Try.prog 36 s_wStage := by
  refine OkH.mkG (ps := []) (hs := []) trivial trivial m_noriaref42_W_Stage (fun x a hp h => by rw [h.1]; rfl) (fun y a hp h _ => ?_)
  obtain ⟨k, a, x⟩ := y
  obtain ⟨rfl, o⟩ := h
  have ws := w_same o
  simp only [oW, cW] at o
  have hk := (List.getElem?_eq_some_iff.1 o).1
  have o2 : ∀ X, (hp.set k X)[k]? = some X := fun X => List.getElem?_set_self hk
  
  simp only [stageA]
  rcases bcases a.h.there with t | t
  all_goals simp only [t, Bool.false_eq_true, if_true, if_false] at o ⊢
  · simp only at ws
    rw [ws]
    (have hcondQ := Bool.and_self; refine Todo.of ?_); (repeat' (first | ((with_reducible refine Todo.to ?_); (repeat (first | (simp only [↓rP, rT, rU, eI, eU, eB, eS, eBs, eL, eA, buildCells, sepsD, sepB, hdl, dvalX, DOp.kind, dval, frameFrom, dBin, dInt, dStr, dBeq, dUn, dLoad, cellsAt, retV, retL, DR.val, fzT, fzVs, fzV, fz1, DV.immB, IntKind.bits, dCallP, viewVs, viewV, view1, capVL, capV, viewL, noMemV, noMem, elemsOf, dAppend, dAppz, dStore, DV.one, alive, freezeAt, fzLL, fzL, bRow, bU, cellsOf, setFrom, DV.isU, lenMax, lenCap, Nat.reduceEqDiff, Nat.reduceAdd, ↓reduceIte, reduceCtorEq, Nat.reduceSub, Int.reduceToNat, Int.reducePow, Nat.reducePow, Int.reduceLE, Int.reduceLT, Nat.reduceLeDiff, Nat.reduceLT, Int.reduceBEq, Int.reduceBNe, Int.reduceEq, Int.reduceNe, Int.reduceAdd, Int.reduceSub, Int.reduceMul, Int.reduceNeg, Int.reduceTDiv, Int.reduceTMod, Int.reduceMod, Int.reduceDiv, Nat.reduceMul, forall_const, implies_true, d_noriaref42_W_Stage, eEns, eIls, eImg, ePrt, ePrts, eRows, eSs, eTy, eVn, eY, sls_len, ils_len, ils_rowsT, sls_rowsT, sls_tk0, ils_tk0, o, List.drop_succ_cons, endC_normal, endC_ret , hcondQ]) | (simp (disch := omega) only [i64_id, u64_id, u8_id, getD_map'])))) | ((with_reducible refine And.intro ?_ ?_); · first | trivial | omega | (simp; done) | (simp; omega)) | ((first | ((with_reducible refine dwp_condI (t := ?_) ?_ (fun hcQ => ?_) (fun hcQ => ?_)); rotate_left; · rfl) | ((with_reducible refine dops_guardI (t := ?_) ?_ (fun hcQ => ?_) (fun hcQ => ?_)); rotate_left; · rfl)) <;> (have hn := hcQ; have hcondQ := hcQ) <;> (try simp only [decide_eq_true_eq, decide_eq_false_iff_not, beq_iff_eq, bne_iff_ne, ne_eq, Bool.and_eq_true, Bool.or_eq_true, Bool.not_eq_true, Bool.not_eq_false, beq_eq_false_iff_ne, bne_eq_false_iff_eq, Bool.not_eq_true', Bool.not_eq_false', Int.ofNat_lt, Int.ofNat_le, Bool.or_eq_false_iff, Bool.and_eq_false_imp, Decidable.not_not, gt_iff_lt, ge_iff_le] at hn) <;> (try (exfalso; omega)) <;> (refine Todo.of ?_)) | (((with_reducible refine dwp_condA ?_ ?_ ?_); · rfl) <;> (refine Todo.of ?_)))) <;> (try (first | (with_reducible rfl) | exact Nat.le_refl _ | exact Int.le_refl _ | assumption | omega))
    exact same_end
  · (have hcondQ := Bool.and_self; refine Todo.of ?_); (repeat' (first | ((with_reducible refine Todo.to ?_); (repeat (first | (simp only [↓rP, rT, rU, eI, eU, eB, eS, eBs, eL, eA, buildCells, sepsD, sepB, hdl, dvalX, DOp.kind, dval, frameFrom, dBin, dInt, dStr, dBeq, dUn, dLoad, cellsAt, retV, retL, DR.val, fzT, fzVs, fzV, fz1, DV.immB, IntKind.bits, dCallP, viewVs, viewV, view1, capVL, capV, viewL, noMemV, noMem, elemsOf, dAppend, dAppz, dStore, DV.one, alive, freezeAt, fzLL, fzL, bRow, bU, cellsOf, setFrom, DV.isU, lenMax, lenCap, Nat.reduceEqDiff, Nat.reduceAdd, ↓reduceIte, reduceCtorEq, Nat.reduceSub, Int.reduceToNat, Int.reducePow, Nat.reducePow, Int.reduceLE, Int.reduceLT, Nat.reduceLeDiff, Nat.reduceLT, Int.reduceBEq, Int.reduceBNe, Int.reduceEq, Int.reduceNe, Int.reduceAdd, Int.reduceSub, Int.reduceMul, Int.reduceNeg, Int.reduceTDiv, Int.reduceTMod, Int.reduceMod, Int.reduceDiv, Nat.reduceMul, forall_const, implies_true, d_noriaref42_W_Stage, eEns, eIls, eImg, ePrt, ePrts, eRows, eSs, eTy, eVn, eY, sls_len, ils_len, ils_rowsT, sls_rowsT, sls_tk0, ils_tk0, o, o2, one_len, List.drop_succ_cons, endC_normal, endC_ret , hcondQ]) | (simp (disch := omega) only [i64_id, u64_id, u8_id, getD_map'])))) | ((with_reducible refine And.intro ?_ ?_); · first | trivial | omega | (simp; done) | (simp; omega)) | ((first | ((with_reducible refine dwp_condI (t := ?_) ?_ (fun hcQ => ?_) (fun hcQ => ?_)); rotate_left; · rfl) | ((with_reducible refine dops_guardI (t := ?_) ?_ (fun hcQ => ?_) (fun hcQ => ?_)); rotate_left; · rfl)) <;> (have hn := hcQ; have hcondQ := hcQ) <;> (try simp only [decide_eq_true_eq, decide_eq_false_iff_not, beq_iff_eq, bne_iff_ne, ne_eq, Bool.and_eq_true, Bool.or_eq_true, Bool.not_eq_true, Bool.not_eq_false, beq_eq_false_iff_ne, bne_eq_false_iff_eq, Bool.not_eq_true', Bool.not_eq_false', Int.ofNat_lt, Int.ofNat_le, Bool.or_eq_false_iff, Bool.and_eq_false_imp, Decidable.not_not, gt_iff_lt, ge_iff_le] at hn) <;> (try (exfalso; omega)) <;> (refine Todo.of ?_)) | (((with_reducible refine dwp_condA ?_ ?_ ?_); · rfl) <;> (refine Todo.of ?_)))) <;> (try (first | (with_reducible rfl) | exact Nat.le_refl _ | exact Int.le_refl _ | assumption | omega))
    refine ⟨⟨[], ?_⟩, one_end (oW_cut _ _)⟩
    rw [List.append_nil]
    first | (simp only [one, oW, cW, t, ils, List.map_nil]; done) | (simp only [one, oW, cW, t, ils, List.map_nil]; rfl)
end Go.Proofs.Ytfjddinibppmdaa

/- The document's store: Load, Keep, Write, Commit. -/
set_option linter.all false
set_option maxRecDepth 20000
namespace Go.Proofs.Ytfjddinibppmdaa
open Go.Nk

theorem fits_at {x : Img} {l : List Int} (h : okXL x l) : s_fits [.agg (cImg x), .sl (ils l)] = (True, .bool (misB x l)) := by
  have := s_fits_at x l
  rw [eq_true h] at this
  exact this
noncomputable def s_wLoad : List DV → List DObj → Res := specG rWil (fun y => (okXL y.2.2.1 y.2.2.2, .bool (misB y.2.2.1 y.2.2.2))) (fun y hp => one hp y.1 (oW (loadA y.2.1 y.2.2.1 y.2.2.2)))
theorem s_wLoad_at {hp : List DObj} {k : Nat} {a : As} {x : Img} {l : List Int} (h : hp[k]? = some (oW a)) : s_wLoad [.ptr k 1 0 0, .agg (cImg x), .sl (ils l)] hp = ⟨okXL x l, .bool (misB x l), one hp k (oW (loadA a x l))⟩ := specG_at (x := (k, a, x, l)) rWil_u ⟨rfl, h⟩
theorem ok_wLoad : OkH Try.prog 34 s_wLoad := by
  refine OkH.mkG (ps := [(50, s_fits)]) (hs := [(39, s_wDrop)]) ⟨ok_noriaref42_fits, trivial⟩ ⟨ok_wDrop, trivial⟩ m_noriaref42_W_Load (fun x a hp h => by rw [h.1]; rfl) (fun y a hp h hv => ?_)
  obtain ⟨k, a, x, l⟩ := y
  obtain ⟨rfl, o⟩ := h
  have hv : okXL x l := hv
  have ws := w_same o
  have ef := fits_at hv
  have ed : s_wDrop [.ptr k 1 0 0] (hp.set k (oW ⟨⟨true, x, l⟩, a.o, a.c⟩)) = ⟨True, .tup [], hp.set k (oW ⟨⟨true, x, l⟩, vnZ, a.c⟩)⟩ := by
    rw [s_wDrop_at (List.getElem?_set_self (List.getElem?_eq_some_iff.1 o).1)]
    simp [one, dropA]
  have hk := (List.getElem?_eq_some_iff.1 o).1
  have o2 : ∀ X, (hp.set k X)[k]? = some X := fun X => List.getElem?_set_self hk
  simp only [oW, cW] at o ed
  
  simp only [loadA]
  rcases bcases (misB x l) with t | t
  all_goals simp only [t, Bool.false_eq_true, if_true, if_false] at ef ⊢
  · rw [ws]
    (have hcondQ := Bool.and_self; refine Todo.of ?_); (repeat' (first | ((with_reducible refine Todo.to ?_); (repeat (first | (simp only [↓rP, rT, rU, eI, eU, eB, eS, eBs, eL, eA, buildCells, sepsD, sepB, hdl, dvalX, DOp.kind, dval, frameFrom, dBin, dInt, dStr, dBeq, dUn, dLoad, cellsAt, retV, retL, DR.val, fzT, fzVs, fzV, fz1, DV.immB, IntKind.bits, dCallP, viewVs, viewV, view1, capVL, capV, viewL, noMemV, noMem, elemsOf, dAppend, dAppz, dStore, DV.one, alive, freezeAt, fzLL, fzL, bRow, bU, cellsOf, setFrom, DV.isU, lenMax, lenCap, Nat.reduceEqDiff, Nat.reduceAdd, ↓reduceIte, reduceCtorEq, Nat.reduceSub, Int.reduceToNat, Int.reducePow, Nat.reducePow, Int.reduceLE, Int.reduceLT, Nat.reduceLeDiff, Nat.reduceLT, Int.reduceBEq, Int.reduceBNe, Int.reduceEq, Int.reduceNe, Int.reduceAdd, Int.reduceSub, Int.reduceMul, Int.reduceNeg, Int.reduceTDiv, Int.reduceTMod, Int.reduceMod, Int.reduceDiv, Nat.reduceMul, forall_const, implies_true, d_noriaref42_W_Load, eEns, eIls, eImg, ePrt, ePrts, eRows, eSs, eTy, eVn, eY, sls_len, ils_len, ils_rowsT, sls_rowsT, sls_tk0, ils_tk0, ef, o, List.drop_succ_cons, endC_normal, endC_ret , hcondQ]) | (simp (disch := omega) only [i64_id, u64_id, u8_id, getD_map'])))) | ((with_reducible refine And.intro ?_ ?_); · first | trivial | omega | (simp; done) | (simp; omega)) | ((first | ((with_reducible refine dwp_condI (t := ?_) ?_ (fun hcQ => ?_) (fun hcQ => ?_)); rotate_left; · rfl) | ((with_reducible refine dops_guardI (t := ?_) ?_ (fun hcQ => ?_) (fun hcQ => ?_)); rotate_left; · rfl)) <;> (have hn := hcQ; have hcondQ := hcQ) <;> (try simp only [decide_eq_true_eq, decide_eq_false_iff_not, beq_iff_eq, bne_iff_ne, ne_eq, Bool.and_eq_true, Bool.or_eq_true, Bool.not_eq_true, Bool.not_eq_false, beq_eq_false_iff_ne, bne_eq_false_iff_eq, Bool.not_eq_true', Bool.not_eq_false', Int.ofNat_lt, Int.ofNat_le, Bool.or_eq_false_iff, Bool.and_eq_false_imp, Decidable.not_not, gt_iff_lt, ge_iff_le] at hn) <;> (try (exfalso; omega)) <;> (refine Todo.of ?_)) | (((with_reducible refine dwp_condA ?_ ?_ ?_); · rfl) <;> (refine Todo.of ?_)))) <;> (try (first | (with_reducible rfl) | exact Nat.le_refl _ | exact Int.le_refl _ | assumption | omega))
    exact same_end
  · (have hcondQ := Bool.and_self; refine Todo.of ?_); (repeat' (first | ((with_reducible refine Todo.to ?_); (repeat (first | (simp only [↓rP, rT, rU, eI, eU, eB, eS, eBs, eL, eA, buildCells, sepsD, sepB, hdl, dvalX, DOp.kind, dval, frameFrom, dBin, dInt, dStr, dBeq, dUn, dLoad, cellsAt, retV, retL, DR.val, fzT, fzVs, fzV, fz1, DV.immB, IntKind.bits, dCallP, viewVs, viewV, view1, capVL, capV, viewL, noMemV, noMem, elemsOf, dAppend, dAppz, dStore, DV.one, alive, freezeAt, fzLL, fzL, bRow, bU, cellsOf, setFrom, DV.isU, lenMax, lenCap, Nat.reduceEqDiff, Nat.reduceAdd, ↓reduceIte, reduceCtorEq, Nat.reduceSub, Int.reduceToNat, Int.reducePow, Nat.reducePow, Int.reduceLE, Int.reduceLT, Nat.reduceLeDiff, Nat.reduceLT, Int.reduceBEq, Int.reduceBNe, Int.reduceEq, Int.reduceNe, Int.reduceAdd, Int.reduceSub, Int.reduceMul, Int.reduceNeg, Int.reduceTDiv, Int.reduceTMod, Int.reduceMod, Int.reduceDiv, Nat.reduceMul, forall_const, implies_true, d_noriaref42_W_Load, eEns, eIls, eImg, ePrt, ePrts, eRows, eSs, eTy, eVn, eY, sls_len, ils_len, ils_rowsT, sls_rowsT, sls_tk0, ils_tk0, ef, o, o2, ed, one_len, List.drop_succ_cons, endC_normal, endC_ret , hcondQ]) | (simp (disch := omega) only [i64_id, u64_id, u8_id, getD_map'])))) | ((with_reducible refine And.intro ?_ ?_); · first | trivial | omega | (simp; done) | (simp; omega)) | ((first | ((with_reducible refine dwp_condI (t := ?_) ?_ (fun hcQ => ?_) (fun hcQ => ?_)); rotate_left; · rfl) | ((with_reducible refine dops_guardI (t := ?_) ?_ (fun hcQ => ?_) (fun hcQ => ?_)); rotate_left; · rfl)) <;> (have hn := hcQ; have hcondQ := hcQ) <;> (try simp only [decide_eq_true_eq, decide_eq_false_iff_not, beq_iff_eq, bne_iff_ne, ne_eq, Bool.and_eq_true, Bool.or_eq_true, Bool.not_eq_true, Bool.not_eq_false, beq_eq_false_iff_ne, bne_eq_false_iff_eq, Bool.not_eq_true', Bool.not_eq_false', Int.ofNat_lt, Int.ofNat_le, Bool.or_eq_false_iff, Bool.and_eq_false_imp, Decidable.not_not, gt_iff_lt, ge_iff_le] at hn) <;> (try (exfalso; omega)) <;> (refine Todo.of ?_)) | (((with_reducible refine dwp_condA ?_ ?_ ?_); · rfl) <;> (refine Todo.of ?_)))) <;> (try (first | (with_reducible rfl) | exact Nat.le_refl _ | exact Int.le_refl _ | assumption | omega))
    refine ⟨⟨[], ?_⟩, one_end (oW_cut _ _)⟩
    rw [List.append_nil]
    rfl
noncomputable def s_wKeep : List DV → List DObj → Res := specG rWl (fun y => (y.2.1.h.there = true → okXL y.2.1.h.x y.2.2, .bool (y.2.1.h.there && misB y.2.1.h.x y.2.2))) (fun y hp => one hp y.1 (oW (keepA y.2.1 y.2.2)))
theorem s_wKeep_at {hp : List DObj} {k : Nat} {a : As} {l : List Int} (h : hp[k]? = some (oW a)) : s_wKeep [.ptr k 1 0 0, .sl (ils l)] hp = ⟨a.h.there = true → okXL a.h.x l, .bool (a.h.there && misB a.h.x l), one hp k (oW (keepA a l))⟩ := specG_at (x := (k, a, l)) rWl_u ⟨rfl, h⟩
theorem ok_wKeep : OkH Try.prog 35 s_wKeep := by
  refine OkH.mkG (ps := [(50, s_fits)]) (hs := []) ⟨ok_noriaref42_fits, trivial⟩ trivial m_noriaref42_W_Keep (fun x a hp h => by rw [h.1]; rfl) (fun y a hp h hv => ?_)
  obtain ⟨k, a, l⟩ := y
  obtain ⟨rfl, o⟩ := h
  have hv : a.h.there = true → okXL a.h.x l := hv
  have ws := w_same o
  have hk := (List.getElem?_eq_some_iff.1 o).1
  have o2 : ∀ X, (hp.set k X)[k]? = some X := fun X => List.getElem?_set_self hk
  simp only [oW, cW] at o
  
  simp only [keepA]
  rcases bcases a.h.there with t | t
  all_goals simp only [t, Bool.false_and, Bool.true_and, Bool.false_eq_true, if_true, if_false] at o ⊢
  · rw [ws]
    (have hcondQ := Bool.and_self; refine Todo.of ?_); (repeat' (first | ((with_reducible refine Todo.to ?_); (repeat (first | (simp only [↓rP, rT, rU, eI, eU, eB, eS, eBs, eL, eA, buildCells, sepsD, sepB, hdl, dvalX, DOp.kind, dval, frameFrom, dBin, dInt, dStr, dBeq, dUn, dLoad, cellsAt, retV, retL, DR.val, fzT, fzVs, fzV, fz1, DV.immB, IntKind.bits, dCallP, viewVs, viewV, view1, capVL, capV, viewL, noMemV, noMem, elemsOf, dAppend, dAppz, dStore, DV.one, alive, freezeAt, fzLL, fzL, bRow, bU, cellsOf, setFrom, DV.isU, lenMax, lenCap, Nat.reduceEqDiff, Nat.reduceAdd, ↓reduceIte, reduceCtorEq, Nat.reduceSub, Int.reduceToNat, Int.reducePow, Nat.reducePow, Int.reduceLE, Int.reduceLT, Nat.reduceLeDiff, Nat.reduceLT, Int.reduceBEq, Int.reduceBNe, Int.reduceEq, Int.reduceNe, Int.reduceAdd, Int.reduceSub, Int.reduceMul, Int.reduceNeg, Int.reduceTDiv, Int.reduceTMod, Int.reduceMod, Int.reduceDiv, Nat.reduceMul, forall_const, implies_true, d_noriaref42_W_Keep, eEns, eIls, eImg, ePrt, ePrts, eRows, eSs, eTy, eVn, eY, sls_len, ils_len, ils_rowsT, sls_rowsT, sls_tk0, ils_tk0, o, List.drop_succ_cons, endC_normal, endC_ret , hcondQ]) | (simp (disch := omega) only [i64_id, u64_id, u8_id, getD_map'])))) | ((with_reducible refine And.intro ?_ ?_); · first | trivial | omega | (simp; done) | (simp; omega)) | ((first | ((with_reducible refine dwp_condI (t := ?_) ?_ (fun hcQ => ?_) (fun hcQ => ?_)); rotate_left; · rfl) | ((with_reducible refine dops_guardI (t := ?_) ?_ (fun hcQ => ?_) (fun hcQ => ?_)); rotate_left; · rfl)) <;> (have hn := hcQ; have hcondQ := hcQ) <;> (try simp only [decide_eq_true_eq, decide_eq_false_iff_not, beq_iff_eq, bne_iff_ne, ne_eq, Bool.and_eq_true, Bool.or_eq_true, Bool.not_eq_true, Bool.not_eq_false, beq_eq_false_iff_ne, bne_eq_false_iff_eq, Bool.not_eq_true', Bool.not_eq_false', Int.ofNat_lt, Int.ofNat_le, Bool.or_eq_false_iff, Bool.and_eq_false_imp, Decidable.not_not, gt_iff_lt, ge_iff_le] at hn) <;> (try (exfalso; omega)) <;> (refine Todo.of ?_)) | (((with_reducible refine dwp_condA ?_ ?_ ?_); · rfl) <;> (refine Todo.of ?_)))) <;> (try (first | (with_reducible rfl) | exact Nat.le_refl _ | exact Int.le_refl _ | assumption | omega))
    exact same_end
  have ef := fits_at (hv t)
  rcases bcases (misB a.h.x l) with z | z
  all_goals simp only [z, Bool.false_eq_true, if_true, if_false] at ef ⊢
  · rw [ws]
    (have hcondQ := Bool.and_self; refine Todo.of ?_); (repeat' (first | ((with_reducible refine Todo.to ?_); (repeat (first | (simp only [↓rP, rT, rU, eI, eU, eB, eS, eBs, eL, eA, buildCells, sepsD, sepB, hdl, dvalX, DOp.kind, dval, frameFrom, dBin, dInt, dStr, dBeq, dUn, dLoad, cellsAt, retV, retL, DR.val, fzT, fzVs, fzV, fz1, DV.immB, IntKind.bits, dCallP, viewVs, viewV, view1, capVL, capV, viewL, noMemV, noMem, elemsOf, dAppend, dAppz, dStore, DV.one, alive, freezeAt, fzLL, fzL, bRow, bU, cellsOf, setFrom, DV.isU, lenMax, lenCap, Nat.reduceEqDiff, Nat.reduceAdd, ↓reduceIte, reduceCtorEq, Nat.reduceSub, Int.reduceToNat, Int.reducePow, Nat.reducePow, Int.reduceLE, Int.reduceLT, Nat.reduceLeDiff, Nat.reduceLT, Int.reduceBEq, Int.reduceBNe, Int.reduceEq, Int.reduceNe, Int.reduceAdd, Int.reduceSub, Int.reduceMul, Int.reduceNeg, Int.reduceTDiv, Int.reduceTMod, Int.reduceMod, Int.reduceDiv, Nat.reduceMul, forall_const, implies_true, d_noriaref42_W_Keep, eEns, eIls, eImg, ePrt, ePrts, eRows, eSs, eTy, eVn, eY, sls_len, ils_len, ils_rowsT, sls_rowsT, sls_tk0, ils_tk0, ef, o, List.drop_succ_cons, endC_normal, endC_ret , hcondQ]) | (simp (disch := omega) only [i64_id, u64_id, u8_id, getD_map'])))) | ((with_reducible refine And.intro ?_ ?_); · first | trivial | omega | (simp; done) | (simp; omega)) | ((first | ((with_reducible refine dwp_condI (t := ?_) ?_ (fun hcQ => ?_) (fun hcQ => ?_)); rotate_left; · rfl) | ((with_reducible refine dops_guardI (t := ?_) ?_ (fun hcQ => ?_) (fun hcQ => ?_)); rotate_left; · rfl)) <;> (have hn := hcQ; have hcondQ := hcQ) <;> (try simp only [decide_eq_true_eq, decide_eq_false_iff_not, beq_iff_eq, bne_iff_ne, ne_eq, Bool.and_eq_true, Bool.or_eq_true, Bool.not_eq_true, Bool.not_eq_false, beq_eq_false_iff_ne, bne_eq_false_iff_eq, Bool.not_eq_true', Bool.not_eq_false', Int.ofNat_lt, Int.ofNat_le, Bool.or_eq_false_iff, Bool.and_eq_false_imp, Decidable.not_not, gt_iff_lt, ge_iff_le] at hn) <;> (try (exfalso; omega)) <;> (refine Todo.of ?_)) | (((with_reducible refine dwp_condA ?_ ?_ ?_); · rfl) <;> (refine Todo.of ?_)))) <;> (try (first | (with_reducible rfl) | exact Nat.le_refl _ | exact Int.le_refl _ | assumption | omega))
    exact same_end
  · (have hcondQ := Bool.and_self; refine Todo.of ?_); (repeat' (first | ((with_reducible refine Todo.to ?_); (repeat (first | (simp only [↓rP, rT, rU, eI, eU, eB, eS, eBs, eL, eA, buildCells, sepsD, sepB, hdl, dvalX, DOp.kind, dval, frameFrom, dBin, dInt, dStr, dBeq, dUn, dLoad, cellsAt, retV, retL, DR.val, fzT, fzVs, fzV, fz1, DV.immB, IntKind.bits, dCallP, viewVs, viewV, view1, capVL, capV, viewL, noMemV, noMem, elemsOf, dAppend, dAppz, dStore, DV.one, alive, freezeAt, fzLL, fzL, bRow, bU, cellsOf, setFrom, DV.isU, lenMax, lenCap, Nat.reduceEqDiff, Nat.reduceAdd, ↓reduceIte, reduceCtorEq, Nat.reduceSub, Int.reduceToNat, Int.reducePow, Nat.reducePow, Int.reduceLE, Int.reduceLT, Nat.reduceLeDiff, Nat.reduceLT, Int.reduceBEq, Int.reduceBNe, Int.reduceEq, Int.reduceNe, Int.reduceAdd, Int.reduceSub, Int.reduceMul, Int.reduceNeg, Int.reduceTDiv, Int.reduceTMod, Int.reduceMod, Int.reduceDiv, Nat.reduceMul, forall_const, implies_true, d_noriaref42_W_Keep, eEns, eIls, eImg, ePrt, ePrts, eRows, eSs, eTy, eVn, eY, sls_len, ils_len, ils_rowsT, sls_rowsT, sls_tk0, ils_tk0, ef, o, o2, one_len, List.drop_succ_cons, endC_normal, endC_ret , hcondQ]) | (simp (disch := omega) only [i64_id, u64_id, u8_id, getD_map'])))) | ((with_reducible refine And.intro ?_ ?_); · first | trivial | omega | (simp; done) | (simp; omega)) | ((first | ((with_reducible refine dwp_condI (t := ?_) ?_ (fun hcQ => ?_) (fun hcQ => ?_)); rotate_left; · rfl) | ((with_reducible refine dops_guardI (t := ?_) ?_ (fun hcQ => ?_) (fun hcQ => ?_)); rotate_left; · rfl)) <;> (have hn := hcQ; have hcondQ := hcQ) <;> (try simp only [decide_eq_true_eq, decide_eq_false_iff_not, beq_iff_eq, bne_iff_ne, ne_eq, Bool.and_eq_true, Bool.or_eq_true, Bool.not_eq_true, Bool.not_eq_false, beq_eq_false_iff_ne, bne_eq_false_iff_eq, Bool.not_eq_true', Bool.not_eq_false', Int.ofNat_lt, Int.ofNat_le, Bool.or_eq_false_iff, Bool.and_eq_false_imp, Decidable.not_not, gt_iff_lt, ge_iff_le] at hn) <;> (try (exfalso; omega)) <;> (refine Todo.of ?_)) | (((with_reducible refine dwp_condA ?_ ?_ ?_); · rfl) <;> (refine Todo.of ?_)))) <;> (try (first | (with_reducible rfl) | exact Nat.le_refl _ | exact Int.le_refl _ | assumption | omega))
    refine ⟨⟨[], ?_⟩, one_end (oW_cut _ _)⟩
    rw [List.append_nil]
    first | (simp only [one, oW, cW, t]; done) | (simp only [one, oW, cW, t]; rfl)
theorem room_is {a : As} {l : List Int} (h : a.o.there = true) : decide (sumC a.o.x.slots < (a.o.st.length : Int) + l.length) = !(wrOk a l) := by
  unfold wrOk missF
  rw [h, Bool.true_and, ← decide_not]
  congr 1
  exact propext (by omega)
noncomputable def s_wWrite : List DV → List DObj → Res := specG rWl (fun y => (y.2.1.o.there = true → okV y.2.1.o ∧ y.2.2.length ≤ 1200, .bool (wrOk y.2.1 y.2.2))) (fun y hp => one hp y.1 (oW (writeA y.2.1 y.2.2)))
theorem s_wWrite_at {hp : List DObj} {k : Nat} {a : As} {l : List Int} (h : hp[k]? = some (oW a)) : s_wWrite [.ptr k 1 0 0, .sl (ils l)] hp = ⟨a.o.there = true → okV a.o ∧ l.length ≤ 1200, .bool (wrOk a l), one hp k (oW (writeA a l))⟩ := specG_at (x := (k, a, l)) rWl_u ⟨rfl, h⟩
theorem ok_wWrite : OkH Try.prog 37 s_wWrite := by
  refine OkH.mkG (ps := [(51, s_SumC)]) (hs := []) ⟨ok_refSumC, trivial⟩ trivial m_noriaref42_W_Write (fun x a hp h => by rw [h.1]; rfl) (fun y a hp h hv => ?_)
  obtain ⟨k, a, l⟩ := y
  obtain ⟨rfl, o⟩ := h
  have hv : a.o.there = true → okV a.o ∧ l.length ≤ 1200 := hv
  have ws := w_same o
  have hk := (List.getElem?_eq_some_iff.1 o).1
  have r1 := ils_rows l
  have r2 := ils_rows a.o.st
  
  simp only [writeA]
  rcases bcases a.o.there with t | t
  · have wn : wrOk a l = false := by unfold wrOk; rw [t]; rfl
    simp only [wn, Bool.false_eq_true, if_false]
    simp only [oW, cW, t] at o
    rw [ws]
    (have hcondQ := Bool.and_self; refine Todo.of ?_); (repeat' (first | ((with_reducible refine Todo.to ?_); (repeat (first | (simp only [↓rP, rT, rU, eI, eU, eB, eS, eBs, eL, eA, buildCells, sepsD, sepB, hdl, dvalX, DOp.kind, dval, frameFrom, dBin, dInt, dStr, dBeq, dUn, dLoad, cellsAt, retV, retL, DR.val, fzT, fzVs, fzV, fz1, DV.immB, IntKind.bits, dCallP, viewVs, viewV, view1, capVL, capV, viewL, noMemV, noMem, elemsOf, dAppend, dAppz, dStore, DV.one, alive, freezeAt, fzLL, fzL, bRow, bU, cellsOf, setFrom, DV.isU, lenMax, lenCap, Nat.reduceEqDiff, Nat.reduceAdd, ↓reduceIte, reduceCtorEq, Nat.reduceSub, Int.reduceToNat, Int.reducePow, Nat.reducePow, Int.reduceLE, Int.reduceLT, Nat.reduceLeDiff, Nat.reduceLT, Int.reduceBEq, Int.reduceBNe, Int.reduceEq, Int.reduceNe, Int.reduceAdd, Int.reduceSub, Int.reduceMul, Int.reduceNeg, Int.reduceTDiv, Int.reduceTMod, Int.reduceMod, Int.reduceDiv, Nat.reduceMul, forall_const, implies_true, d_noriaref42_W_Write, eEns, eIls, eImg, ePrt, ePrts, eRows, eSs, eTy, eVn, eY, sls_len, ils_len, ils_rowsT, sls_rowsT, sls_tk0, ils_tk0, o, List.drop_succ_cons, endC_normal, endC_ret , hcondQ]) | (simp (disch := omega) only [i64_id, u64_id, u8_id, getD_map'])))) | ((with_reducible refine And.intro ?_ ?_); · first | trivial | omega | (simp; done) | (simp; omega)) | ((first | ((with_reducible refine dwp_condI (t := ?_) ?_ (fun hcQ => ?_) (fun hcQ => ?_)); rotate_left; · rfl) | ((with_reducible refine dops_guardI (t := ?_) ?_ (fun hcQ => ?_) (fun hcQ => ?_)); rotate_left; · rfl)) <;> (have hn := hcQ; have hcondQ := hcQ) <;> (try simp only [decide_eq_true_eq, decide_eq_false_iff_not, beq_iff_eq, bne_iff_ne, ne_eq, Bool.and_eq_true, Bool.or_eq_true, Bool.not_eq_true, Bool.not_eq_false, beq_eq_false_iff_ne, bne_eq_false_iff_eq, Bool.not_eq_true', Bool.not_eq_false', Int.ofNat_lt, Int.ofNat_le, Bool.or_eq_false_iff, Bool.and_eq_false_imp, Decidable.not_not, gt_iff_lt, ge_iff_le] at hn) <;> (try (exfalso; omega)) <;> (refine Todo.of ?_)) | (((with_reducible refine dwp_condA ?_ ?_ ?_); · rfl) <;> (refine Todo.of ?_)))) <;> (try (first | (with_reducible rfl) | exact Nat.le_refl _ | exact Int.le_refl _ | assumption | omega))
    exact same_end
  obtain ⟨hv, hl⟩ := hv t
  have es := s_SumC_at a.o.x.slots
  rw [eq_true (show a.o.x.slots.length ≤ 1000000000 by have := hv.1; omega)] at es
  have w : IntKind.i64.wrap ((a.o.st.length : Int) + l.length) = (a.o.st.length : Int) + l.length := by have := hv.2; rw [wrap_i64_id (by omega)]
  have rm := room_is (l := l) t
  rcases bcases (wrOk a l) with z | z
  all_goals simp only [z, Bool.not_false, Bool.not_true, decide_eq_true_eq, decide_eq_false_iff_not, Bool.false_eq_true, if_true, if_false] at rm ⊢
  · rw [ws]
    simp only [oW, cW, t] at o
    (have hcondQ := Bool.and_self; refine Todo.of ?_); (repeat' (first | ((with_reducible refine Todo.to ?_); (repeat (first | (simp only [↓rP, rT, rU, eI, eU, eB, eS, eBs, eL, eA, buildCells, sepsD, sepB, hdl, dvalX, DOp.kind, dval, frameFrom, dBin, dInt, dStr, dBeq, dUn, dLoad, cellsAt, retV, retL, DR.val, fzT, fzVs, fzV, fz1, DV.immB, IntKind.bits, dCallP, viewVs, viewV, view1, capVL, capV, viewL, noMemV, noMem, elemsOf, dAppend, dAppz, dStore, DV.one, alive, freezeAt, fzLL, fzL, bRow, bU, cellsOf, setFrom, DV.isU, lenMax, lenCap, Nat.reduceEqDiff, Nat.reduceAdd, ↓reduceIte, reduceCtorEq, Nat.reduceSub, Int.reduceToNat, Int.reducePow, Nat.reducePow, Int.reduceLE, Int.reduceLT, Nat.reduceLeDiff, Nat.reduceLT, Int.reduceBEq, Int.reduceBNe, Int.reduceEq, Int.reduceNe, Int.reduceAdd, Int.reduceSub, Int.reduceMul, Int.reduceNeg, Int.reduceTDiv, Int.reduceTMod, Int.reduceMod, Int.reduceDiv, Nat.reduceMul, forall_const, implies_true, d_noriaref42_W_Write, eEns, eIls, eImg, ePrt, ePrts, eRows, eSs, eTy, eVn, eY, sls_len, ils_len, ils_rowsT, sls_rowsT, sls_tk0, ils_tk0, es, w, rm, o, ils_len, List.drop_succ_cons, endC_normal, endC_ret , hcondQ]) | (simp (disch := omega) only [i64_id, u64_id, u8_id, getD_map'])))) | ((with_reducible refine And.intro ?_ ?_); · first | trivial | omega | (simp; done) | (simp; omega)) | ((first | ((with_reducible refine dwp_condI (t := ?_) ?_ (fun hcQ => ?_) (fun hcQ => ?_)); rotate_left; · rfl) | ((with_reducible refine dops_guardI (t := ?_) ?_ (fun hcQ => ?_) (fun hcQ => ?_)); rotate_left; · rfl)) <;> (have hn := hcQ; have hcondQ := hcQ) <;> (try simp only [decide_eq_true_eq, decide_eq_false_iff_not, beq_iff_eq, bne_iff_ne, ne_eq, Bool.and_eq_true, Bool.or_eq_true, Bool.not_eq_true, Bool.not_eq_false, beq_eq_false_iff_ne, bne_eq_false_iff_eq, Bool.not_eq_true', Bool.not_eq_false', Int.ofNat_lt, Int.ofNat_le, Bool.or_eq_false_iff, Bool.and_eq_false_imp, Decidable.not_not, gt_iff_lt, ge_iff_le] at hn) <;> (try (exfalso; omega)) <;> (refine Todo.of ?_)) | (((with_reducible refine dwp_condA ?_ ?_ ?_); · rfl) <;> (refine Todo.of ?_)))) <;> (try (first | (with_reducible rfl) | exact Nat.le_refl _ | exact Int.le_refl _ | assumption | omega))
    exact same_end
  · have o1 := fun u => get_app (t := u) o
    simp only [oW, cW, t] at o o1
    have b1 : a.o.st.length ≤ 4294967296 := by have := hv.2; omega
    have b2 : a.o.st.length + l.length ≤ 4294967296 := by have := hv.2; omega
    have tk : (ils a.o.st ++ ils l).take (a.o.st.length + l.length) = ils a.o.st ++ ils l := List.take_of_length_le (by rw [List.length_append, ils_len, ils_len]; exact Nat.le_refl _)
    have st1 : ∀ u o', (hp ++ u).set k o' = hp.set k o' ++ u := fun u o' => List.set_append_left _ _ hk
    (have hcondQ := Bool.and_self; refine Todo.of ?_); (repeat' (first | ((with_reducible refine Todo.to ?_); (repeat (first | (simp only [↓rP, rT, rU, eI, eU, eB, eS, eBs, eL, eA, buildCells, sepsD, sepB, hdl, dvalX, DOp.kind, dval, frameFrom, dBin, dInt, dStr, dBeq, dUn, dLoad, cellsAt, retV, retL, DR.val, fzT, fzVs, fzV, fz1, DV.immB, IntKind.bits, dCallP, viewVs, viewV, view1, capVL, capV, viewL, noMemV, noMem, elemsOf, dAppend, dAppz, dStore, DV.one, alive, freezeAt, fzLL, fzL, bRow, bU, cellsOf, setFrom, DV.isU, lenMax, lenCap, Nat.reduceEqDiff, Nat.reduceAdd, ↓reduceIte, reduceCtorEq, Nat.reduceSub, Int.reduceToNat, Int.reducePow, Nat.reducePow, Int.reduceLE, Int.reduceLT, Nat.reduceLeDiff, Nat.reduceLT, Int.reduceBEq, Int.reduceBNe, Int.reduceEq, Int.reduceNe, Int.reduceAdd, Int.reduceSub, Int.reduceMul, Int.reduceNeg, Int.reduceTDiv, Int.reduceTMod, Int.reduceMod, Int.reduceDiv, Nat.reduceMul, forall_const, implies_true, d_noriaref42_W_Write, eEns, eIls, eImg, ePrt, ePrts, eRows, eSs, eTy, eVn, eY, sls_len, ils_len, ils_rowsT, sls_rowsT, sls_tk0, ils_tk0, es, w, rm, o, o1, r1, r2, b1, b2, tk, st1, ils_len, lenMax, end_get, end_set, one_len, List.length_append, List.drop_succ_cons, endC_normal, endC_ret , hcondQ]) | (simp (disch := omega) only [i64_id, u64_id, u8_id, getD_map'])))) | ((with_reducible refine And.intro ?_ ?_); · first | trivial | omega | (simp; done) | (simp; omega)) | ((first | ((with_reducible refine dwp_condI (t := ?_) ?_ (fun hcQ => ?_) (fun hcQ => ?_)); rotate_left; · rfl) | ((with_reducible refine dops_guardI (t := ?_) ?_ (fun hcQ => ?_) (fun hcQ => ?_)); rotate_left; · rfl)) <;> (have hn := hcQ; have hcondQ := hcQ) <;> (try simp only [decide_eq_true_eq, decide_eq_false_iff_not, beq_iff_eq, bne_iff_ne, ne_eq, Bool.and_eq_true, Bool.or_eq_true, Bool.not_eq_true, Bool.not_eq_false, beq_eq_false_iff_ne, bne_eq_false_iff_eq, Bool.not_eq_true', Bool.not_eq_false', Int.ofNat_lt, Int.ofNat_le, Bool.or_eq_false_iff, Bool.and_eq_false_imp, Decidable.not_not, gt_iff_lt, ge_iff_le] at hn) <;> (try (exfalso; omega)) <;> (refine Todo.of ?_)) | (((with_reducible refine dwp_condA ?_ ?_ ?_); · rfl) <;> (refine Todo.of ?_)))) <;> (try (first | (with_reducible rfl) | exact Nat.le_refl _ | exact Int.le_refl _ | assumption | omega))
    refine ⟨?_, one_end (oW_cut _ _)⟩
    simp only [one, oW, cW, addV, t, ils_append]
    exact ⟨_, rfl⟩
noncomputable def s_wCommit : List DV → List DObj → Res := specG rWd (fun y => (y.2.o.there = true → okV y.2.o ∧ y.2.h.there = true, .bool (cmOk y.2))) (fun y hp => one hp y.1 (oW (commitA y.2)))
theorem s_wCommit_at {hp : List DObj} {k : Nat} {a : As} (h : hp[k]? = some (oW a)) : s_wCommit [.ptr k 1 0 0] hp = ⟨a.o.there = true → okV a.o ∧ a.h.there = true, .bool (cmOk a), one hp k (oW (commitA a))⟩ := specG_at (x := (k, a)) rWd_u ⟨rfl, h⟩
theorem ok_wCommit : OkH Try.prog 38 s_wCommit := by
  refine OkH.mkG (ps := [(50, s_fits)]) (hs := []) ⟨ok_noriaref42_fits, trivial⟩ trivial m_noriaref42_W_Commit (fun x a hp h => by rw [h.1]; rfl) (fun y a hp h hv => ?_)
  obtain ⟨k, a⟩ := y
  obtain ⟨rfl, o⟩ := h
  have hv : a.o.there = true → okV a.o ∧ a.h.there = true := hv
  have ws := w_same o
  have hk := (List.getElem?_eq_some_iff.1 o).1
  have o2 : ∀ X, (hp.set k X)[k]? = some X := fun X => List.getElem?_set_self hk
  simp only [oW, cW] at o
  
  simp only [commitA]
  rcases bcases a.o.there with t | t
  · have wn : cmOk a = false := by unfold cmOk; rw [t]; rfl
    simp only [wn, Bool.false_eq_true, if_false]
    simp only [t] at o
    rw [ws]
    (have hcondQ := Bool.and_self; refine Todo.of ?_); (repeat' (first | ((with_reducible refine Todo.to ?_); (repeat (first | (simp only [↓rP, rT, rU, eI, eU, eB, eS, eBs, eL, eA, buildCells, sepsD, sepB, hdl, dvalX, DOp.kind, dval, frameFrom, dBin, dInt, dStr, dBeq, dUn, dLoad, cellsAt, retV, retL, DR.val, fzT, fzVs, fzV, fz1, DV.immB, IntKind.bits, dCallP, viewVs, viewV, view1, capVL, capV, viewL, noMemV, noMem, elemsOf, dAppend, dAppz, dStore, DV.one, alive, freezeAt, fzLL, fzL, bRow, bU, cellsOf, setFrom, DV.isU, lenMax, lenCap, Nat.reduceEqDiff, Nat.reduceAdd, ↓reduceIte, reduceCtorEq, Nat.reduceSub, Int.reduceToNat, Int.reducePow, Nat.reducePow, Int.reduceLE, Int.reduceLT, Nat.reduceLeDiff, Nat.reduceLT, Int.reduceBEq, Int.reduceBNe, Int.reduceEq, Int.reduceNe, Int.reduceAdd, Int.reduceSub, Int.reduceMul, Int.reduceNeg, Int.reduceTDiv, Int.reduceTMod, Int.reduceMod, Int.reduceDiv, Nat.reduceMul, forall_const, implies_true, d_noriaref42_W_Commit, eEns, eIls, eImg, ePrt, ePrts, eRows, eSs, eTy, eVn, eY, sls_len, ils_len, ils_rowsT, sls_rowsT, sls_tk0, ils_tk0, o, List.drop_succ_cons, endC_normal, endC_ret , hcondQ]) | (simp (disch := omega) only [i64_id, u64_id, u8_id, getD_map'])))) | ((with_reducible refine And.intro ?_ ?_); · first | trivial | omega | (simp; done) | (simp; omega)) | ((first | ((with_reducible refine dwp_condI (t := ?_) ?_ (fun hcQ => ?_) (fun hcQ => ?_)); rotate_left; · rfl) | ((with_reducible refine dops_guardI (t := ?_) ?_ (fun hcQ => ?_) (fun hcQ => ?_)); rotate_left; · rfl)) <;> (have hn := hcQ; have hcondQ := hcQ) <;> (try simp only [decide_eq_true_eq, decide_eq_false_iff_not, beq_iff_eq, bne_iff_ne, ne_eq, Bool.and_eq_true, Bool.or_eq_true, Bool.not_eq_true, Bool.not_eq_false, beq_eq_false_iff_ne, bne_eq_false_iff_eq, Bool.not_eq_true', Bool.not_eq_false', Int.ofNat_lt, Int.ofNat_le, Bool.or_eq_false_iff, Bool.and_eq_false_imp, Decidable.not_not, gt_iff_lt, ge_iff_le] at hn) <;> (try (exfalso; omega)) <;> (refine Todo.of ?_)) | (((with_reducible refine dwp_condA ?_ ?_ ?_); · rfl) <;> (refine Todo.of ?_)))) <;> (try (first | (with_reducible rfl) | exact Nat.le_refl _ | exact Int.le_refl _ | assumption | omega))
    exact same_end
  obtain ⟨hv, th⟩ := hv t
  have ef := fits_at (x := a.o.x) (l := a.o.st) hv
  have cm : cmOk a = misB a.o.x a.o.st := by unfold cmOk misB missF; rw [t]; rfl
  simp only [t] at o
  rcases bcases (misB a.o.x a.o.st) with z | z
  all_goals simp only [cm, z, Bool.false_eq_true, if_true, if_false] at ef ⊢
  · rw [ws]
    (have hcondQ := Bool.and_self; refine Todo.of ?_); (repeat' (first | ((with_reducible refine Todo.to ?_); (repeat (first | (simp only [↓rP, rT, rU, eI, eU, eB, eS, eBs, eL, eA, buildCells, sepsD, sepB, hdl, dvalX, DOp.kind, dval, frameFrom, dBin, dInt, dStr, dBeq, dUn, dLoad, cellsAt, retV, retL, DR.val, fzT, fzVs, fzV, fz1, DV.immB, IntKind.bits, dCallP, viewVs, viewV, view1, capVL, capV, viewL, noMemV, noMem, elemsOf, dAppend, dAppz, dStore, DV.one, alive, freezeAt, fzLL, fzL, bRow, bU, cellsOf, setFrom, DV.isU, lenMax, lenCap, Nat.reduceEqDiff, Nat.reduceAdd, ↓reduceIte, reduceCtorEq, Nat.reduceSub, Int.reduceToNat, Int.reducePow, Nat.reducePow, Int.reduceLE, Int.reduceLT, Nat.reduceLeDiff, Nat.reduceLT, Int.reduceBEq, Int.reduceBNe, Int.reduceEq, Int.reduceNe, Int.reduceAdd, Int.reduceSub, Int.reduceMul, Int.reduceNeg, Int.reduceTDiv, Int.reduceTMod, Int.reduceMod, Int.reduceDiv, Nat.reduceMul, forall_const, implies_true, d_noriaref42_W_Commit, eEns, eIls, eImg, ePrt, ePrts, eRows, eSs, eTy, eVn, eY, sls_len, ils_len, ils_rowsT, sls_rowsT, sls_tk0, ils_tk0, ef, o, List.drop_succ_cons, endC_normal, endC_ret , hcondQ]) | (simp (disch := omega) only [i64_id, u64_id, u8_id, getD_map'])))) | ((with_reducible refine And.intro ?_ ?_); · first | trivial | omega | (simp; done) | (simp; omega)) | ((first | ((with_reducible refine dwp_condI (t := ?_) ?_ (fun hcQ => ?_) (fun hcQ => ?_)); rotate_left; · rfl) | ((with_reducible refine dops_guardI (t := ?_) ?_ (fun hcQ => ?_) (fun hcQ => ?_)); rotate_left; · rfl)) <;> (have hn := hcQ; have hcondQ := hcQ) <;> (try simp only [decide_eq_true_eq, decide_eq_false_iff_not, beq_iff_eq, bne_iff_ne, ne_eq, Bool.and_eq_true, Bool.or_eq_true, Bool.not_eq_true, Bool.not_eq_false, beq_eq_false_iff_ne, bne_eq_false_iff_eq, Bool.not_eq_true', Bool.not_eq_false', Int.ofNat_lt, Int.ofNat_le, Bool.or_eq_false_iff, Bool.and_eq_false_imp, Decidable.not_not, gt_iff_lt, ge_iff_le] at hn) <;> (try (exfalso; omega)) <;> (refine Todo.of ?_)) | (((with_reducible refine dwp_condA ?_ ?_ ?_); · rfl) <;> (refine Todo.of ?_)))) <;> (try (first | (with_reducible rfl) | exact Nat.le_refl _ | exact Int.le_refl _ | assumption | omega))
    exact same_end
  · (have hcondQ := Bool.and_self; refine Todo.of ?_); (repeat' (first | ((with_reducible refine Todo.to ?_); (repeat (first | (simp only [↓rP, rT, rU, eI, eU, eB, eS, eBs, eL, eA, buildCells, sepsD, sepB, hdl, dvalX, DOp.kind, dval, frameFrom, dBin, dInt, dStr, dBeq, dUn, dLoad, cellsAt, retV, retL, DR.val, fzT, fzVs, fzV, fz1, DV.immB, IntKind.bits, dCallP, viewVs, viewV, view1, capVL, capV, viewL, noMemV, noMem, elemsOf, dAppend, dAppz, dStore, DV.one, alive, freezeAt, fzLL, fzL, bRow, bU, cellsOf, setFrom, DV.isU, lenMax, lenCap, Nat.reduceEqDiff, Nat.reduceAdd, ↓reduceIte, reduceCtorEq, Nat.reduceSub, Int.reduceToNat, Int.reducePow, Nat.reducePow, Int.reduceLE, Int.reduceLT, Nat.reduceLeDiff, Nat.reduceLT, Int.reduceBEq, Int.reduceBNe, Int.reduceEq, Int.reduceNe, Int.reduceAdd, Int.reduceSub, Int.reduceMul, Int.reduceNeg, Int.reduceTDiv, Int.reduceTMod, Int.reduceMod, Int.reduceDiv, Nat.reduceMul, forall_const, implies_true, d_noriaref42_W_Commit, eEns, eIls, eImg, ePrt, ePrts, eRows, eSs, eTy, eVn, eY, sls_len, ils_len, ils_rowsT, sls_rowsT, sls_tk0, ils_tk0, ef, o, o2, one_len, List.drop_succ_cons, endC_normal, endC_ret , hcondQ]) | (simp (disch := omega) only [i64_id, u64_id, u8_id, getD_map'])))) | ((with_reducible refine And.intro ?_ ?_); · first | trivial | omega | (simp; done) | (simp; omega)) | ((first | ((with_reducible refine dwp_condI (t := ?_) ?_ (fun hcQ => ?_) (fun hcQ => ?_)); rotate_left; · rfl) | ((with_reducible refine dops_guardI (t := ?_) ?_ (fun hcQ => ?_) (fun hcQ => ?_)); rotate_left; · rfl)) <;> (have hn := hcQ; have hcondQ := hcQ) <;> (try simp only [decide_eq_true_eq, decide_eq_false_iff_not, beq_iff_eq, bne_iff_ne, ne_eq, Bool.and_eq_true, Bool.or_eq_true, Bool.not_eq_true, Bool.not_eq_false, beq_eq_false_iff_ne, bne_eq_false_iff_eq, Bool.not_eq_true', Bool.not_eq_false', Int.ofNat_lt, Int.ofNat_le, Bool.or_eq_false_iff, Bool.and_eq_false_imp, Decidable.not_not, gt_iff_lt, ge_iff_le] at hn) <;> (try (exfalso; omega)) <;> (refine Todo.of ?_)) | (((with_reducible refine dwp_condA ?_ ?_ ?_); · rfl) <;> (refine Todo.of ?_)))) <;> (try (first | (with_reducible rfl) | exact Nat.le_refl _ | exact Int.le_refl _ | assumption | omega))
    refine ⟨⟨[], ?_⟩, one_end (oW_cut _ _)⟩
    rw [List.append_nil]
    first | (simp only [one, oW, cW, t, th]; done) | (simp only [one, oW, cW, t, th]; rfl)
end Go.Proofs.Ytfjddinibppmdaa

