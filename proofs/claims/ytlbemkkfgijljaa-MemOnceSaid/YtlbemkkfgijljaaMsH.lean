/- MemStarts. -/
import Derived.Test.YtlbemkkfgijljaaMsG
set_option linter.all false
set_option maxRecDepth 20000
namespace Go.Proofs.Ytlbemkkfgijljaa
open Go.Nk

theorem preC_nil (c : Cel) : preC [] c = c := rfl
theorem ok_mem_Start : OkP Try.prog 23 s_StartV := by
  refine OkP.mk2 (ps := [(21, s_Count)]) (hs := [(42, s_below 11)]) ⟨ok_mem_Count, trivial⟩ ⟨ok_below 11, trivial⟩ m_mem_Start fun l at_ h => ?_
  have hw : okW l := h
  have e1 := s_Count_at l at_
  rw [eq_true hw.1] at e1
  dsimp only
  by_cases c : okV l at_ = true
  · have hS := okV_S hw c
    have e3 : startV l at_ = startN l 11 at_ := by rw [startV, if_pos c]
    have eb : s_below 11 [.agg (cFls l), .int .i64 at_, .str [], cAdd 0] [⟨.loc, 1, [[.own 1 0 0 0]]⟩, ⟨.imm, 2, []⟩] = ⟨True, .tup [], [⟨.loc, 1, [[.own 1 (startN l 11 at_).length 0 (startN l 11 at_).length]]⟩, ⟨.imm, 2, (startN l 11 at_).map cCel⟩]⟩ := by
      have := specG_at (f := fun x : rB => (okB 11 x, DV.tup [])) (out := fun x hp => TD.put hp x.n x.m (outB 11 x)) rBel_u (x := ⟨0, 1, [], l, at_, []⟩) (a := [.agg (cFls l), .int .i64 at_, .str [], cAdd 0]) (hp := [⟨.loc, 1, [[.own 1 0 0 0]]⟩, ⟨.imm, 2, []⟩]) ⟨rfl, rfl, rfl, Nat.zero_ne_one⟩
      unfold s_below
      rw [this, eq_true (show okB 11 ⟨0, 1, [], l, at_, []⟩ from ⟨hS.1, by simp only [List.length_nil]; omega, by simp⟩)]
      have e9 : outB 11 ⟨0, 1, [], l, at_, []⟩ = startN l 11 at_ := by
        have : preC [] = id := funext preC_nil
        simp only [outB, this, List.map_id, List.nil_append]
      rw [e9]
      rfl
    rw [c, e3]
    simp only [okV, Bool.and_eq_true, Bool.not_eq_true', decide_eq_true_eq] at c
    obtain ⟨c1, c2, c3⟩ := c
    have c2' : decide ((120 : Int) < (countF l at_).1) = false := by simp; omega
    have c3' : decide ((120 : Int) < (countF l at_).2) = false := by simp; omega
    generalize startN l 11 at_ = S at eb
    
    (have hcondQ := Bool.and_self; refine Todo.of ?_); (repeat' (first | ((with_reducible refine Todo.to ?_); (repeat (first | (simp only [↓rP, rT, rU, eI, eU, eB, eS, eBs, eL, eA, buildCells, sepsD, sepB, hdl, dvalX, DOp.kind, dval, frameFrom, dBin, dInt, dStr, dBeq, dUn, dLoad, cellsAt, retV, retL, DR.val, fzT, fzVs, fzV, fz1, DV.immB, IntKind.bits, dCallP, viewVs, viewV, view1, capVL, capV, viewL, noMemV, noMem, elemsOf, dAppend, dAppz, dStore, DV.one, alive, freezeAt, fzLL, fzL, bRow, bU, cellsOf, setFrom, DV.isU, lenMax, lenCap, Nat.reduceEqDiff, Nat.reduceAdd, ↓reduceIte, reduceCtorEq, Nat.reduceSub, Int.reduceToNat, Int.reducePow, Nat.reducePow, Int.reduceLE, Int.reduceLT, Nat.reduceLeDiff, Nat.reduceLT, Int.reduceBEq, Int.reduceBNe, Int.reduceEq, Int.reduceNe, Int.reduceAdd, Int.reduceSub, Int.reduceMul, Int.reduceNeg, Int.reduceTDiv, Int.reduceTMod, Int.reduceMod, Int.reduceDiv, Nat.reduceMul, forall_const, implies_true, d_mem_Start, eCel, eCels, eCloGet, eCloSame, eFl, eFls, eIls, ePl, eRCels, eRIls, eRS, eRows, eSs, eTrn, eY, sls_len, ils_len, ils_rowsT, sls_rowsT, sls_tk0, ils_tk0, cel_tk0, cel_rowsT, ofI_p, ofI_h, only_normal, e1, c1, c2', c3' , hcondQ]) | (simp (disch := omega) only [i64_id, u64_id, u8_id, getD_map'])))) | ((with_reducible refine And.intro ?_ ?_); · first | trivial | omega | (simp; done) | (simp; omega)) | ((first | ((with_reducible refine dwp_condI (t := ?_) ?_ (fun hcQ => ?_) (fun hcQ => ?_)); rotate_left; · rfl) | ((with_reducible refine dops_guardI (t := ?_) ?_ (fun hcQ => ?_) (fun hcQ => ?_)); rotate_left; · rfl)) <;> (have hn := hcQ; have hcondQ := hcQ) <;> (try simp only [decide_eq_true_eq, decide_eq_false_iff_not, beq_iff_eq, bne_iff_ne, ne_eq, Bool.and_eq_true, Bool.or_eq_true, Bool.not_eq_true, Bool.not_eq_false, beq_eq_false_iff_ne, bne_eq_false_iff_eq, Bool.not_eq_true', Bool.not_eq_false', Int.ofNat_lt, Int.ofNat_le, Bool.or_eq_false_iff, Bool.and_eq_false_imp, Decidable.not_not, gt_iff_lt, ge_iff_le] at hn) <;> (try (exfalso; omega)) <;> (refine Todo.of ?_)) | (((with_reducible refine dwp_condA ?_ ?_ ?_); · rfl) <;> (refine Todo.of ?_)))) <;> (try (first | (with_reducible rfl) | exact Nat.le_refl _ | exact Int.le_refl _ | assumption | omega))
    refine dwp_gown_grow ?_
    (have hcondQ := Bool.and_self; refine Todo.of ?_); (repeat' (first | ((with_reducible refine Todo.to ?_); (repeat (first | (simp only [↓rP, rT, rU, eI, eU, eB, eS, eBs, eL, eA, buildCells, sepsD, sepB, hdl, dvalX, DOp.kind, dval, frameFrom, dBin, dInt, dStr, dBeq, dUn, dLoad, cellsAt, retV, retL, DR.val, fzT, fzVs, fzV, fz1, DV.immB, IntKind.bits, dCallP, viewVs, viewV, view1, capVL, capV, viewL, noMemV, noMem, elemsOf, dAppend, dAppz, dStore, DV.one, alive, freezeAt, fzLL, fzL, bRow, bU, cellsOf, setFrom, DV.isU, lenMax, lenCap, Nat.reduceEqDiff, Nat.reduceAdd, ↓reduceIte, reduceCtorEq, Nat.reduceSub, Int.reduceToNat, Int.reducePow, Nat.reducePow, Int.reduceLE, Int.reduceLT, Nat.reduceLeDiff, Nat.reduceLT, Int.reduceBEq, Int.reduceBNe, Int.reduceEq, Int.reduceNe, Int.reduceAdd, Int.reduceSub, Int.reduceMul, Int.reduceNeg, Int.reduceTDiv, Int.reduceTMod, Int.reduceMod, Int.reduceDiv, Nat.reduceMul, forall_const, implies_true, d_mem_Start, eCel, eCels, eCloGet, eCloSame, eFl, eFls, eIls, ePl, eRCels, eRIls, eRS, eRows, eSs, eTrn, eY, sls_len, ils_len, ils_rowsT, sls_rowsT, sls_tk0, ils_tk0, cel_tk0, cel_rowsT, ofI_p, ofI_h, only_normal, eb , hcondQ]) | (simp (disch := omega) only [i64_id, u64_id, u8_id, getD_map'])))) | ((with_reducible refine And.intro ?_ ?_); · first | trivial | omega | (simp; done) | (simp; omega)) | ((first | ((with_reducible refine dwp_condI (t := ?_) ?_ (fun hcQ => ?_) (fun hcQ => ?_)); rotate_left; · rfl) | ((with_reducible refine dops_guardI (t := ?_) ?_ (fun hcQ => ?_) (fun hcQ => ?_)); rotate_left; · rfl)) <;> (have hn := hcQ; have hcondQ := hcQ) <;> (try simp only [decide_eq_true_eq, decide_eq_false_iff_not, beq_iff_eq, bne_iff_ne, ne_eq, Bool.and_eq_true, Bool.or_eq_true, Bool.not_eq_true, Bool.not_eq_false, beq_eq_false_iff_ne, bne_eq_false_iff_eq, Bool.not_eq_true', Bool.not_eq_false', Int.ofNat_lt, Int.ofNat_le, Bool.or_eq_false_iff, Bool.and_eq_false_imp, Decidable.not_not, gt_iff_lt, ge_iff_le] at hn) <;> (try (exfalso; omega)) <;> (refine Todo.of ?_)) | (((with_reducible refine dwp_condA ?_ ?_ ?_); · rfl) <;> (refine Todo.of ?_)))) <;> (try (first | (with_reducible rfl) | exact Nat.le_refl _ | exact Int.le_refl _ | assumption | omega))
  · have e3 : startV l at_ = [] := by rw [startV, if_neg c]
    have c : okV l at_ = false := by simpa using c
    rw [c, e3]
    
    (have hcondQ := Bool.and_self; refine Todo.of ?_); (repeat' (first | ((with_reducible refine Todo.to ?_); (repeat (first | (simp only [↓rP, rT, rU, eI, eU, eB, eS, eBs, eL, eA, buildCells, sepsD, sepB, hdl, dvalX, DOp.kind, dval, frameFrom, dBin, dInt, dStr, dBeq, dUn, dLoad, cellsAt, retV, retL, DR.val, fzT, fzVs, fzV, fz1, DV.immB, IntKind.bits, dCallP, viewVs, viewV, view1, capVL, capV, viewL, noMemV, noMem, elemsOf, dAppend, dAppz, dStore, DV.one, alive, freezeAt, fzLL, fzL, bRow, bU, cellsOf, setFrom, DV.isU, lenMax, lenCap, Nat.reduceEqDiff, Nat.reduceAdd, ↓reduceIte, reduceCtorEq, Nat.reduceSub, Int.reduceToNat, Int.reducePow, Nat.reducePow, Int.reduceLE, Int.reduceLT, Nat.reduceLeDiff, Nat.reduceLT, Int.reduceBEq, Int.reduceBNe, Int.reduceEq, Int.reduceNe, Int.reduceAdd, Int.reduceSub, Int.reduceMul, Int.reduceNeg, Int.reduceTDiv, Int.reduceTMod, Int.reduceMod, Int.reduceDiv, Nat.reduceMul, forall_const, implies_true, d_mem_Start, eCel, eCels, eCloGet, eCloSame, eFl, eFls, eIls, ePl, eRCels, eRIls, eRS, eRows, eSs, eTrn, eY, sls_len, ils_len, ils_rowsT, sls_rowsT, sls_tk0, ils_tk0, cel_tk0, cel_rowsT, ofI_p, ofI_h, only_normal, e1, List.map_nil , hcondQ]) | (simp (disch := omega) only [i64_id, u64_id, u8_id, getD_map'])))) | ((with_reducible refine And.intro ?_ ?_); · first | trivial | omega | (simp; done) | (simp; omega)) | ((first | ((with_reducible refine dwp_condI (t := ?_) ?_ (fun hcQ => ?_) (fun hcQ => ?_)); rotate_left; · rfl) | ((with_reducible refine dops_guardI (t := ?_) ?_ (fun hcQ => ?_) (fun hcQ => ?_)); rotate_left; · rfl)) <;> (have hn := hcQ; have hcondQ := hcQ) <;> (try simp only [decide_eq_true_eq, decide_eq_false_iff_not, beq_iff_eq, bne_iff_ne, ne_eq, Bool.and_eq_true, Bool.or_eq_true, Bool.not_eq_true, Bool.not_eq_false, beq_eq_false_iff_ne, bne_eq_false_iff_eq, Bool.not_eq_true', Bool.not_eq_false', Int.ofNat_lt, Int.ofNat_le, Bool.or_eq_false_iff, Bool.and_eq_false_imp, Decidable.not_not, gt_iff_lt, ge_iff_le] at hn) <;> (try (exfalso; omega)) <;> (refine Todo.of ?_)) | (((with_reducible refine dwp_condA ?_ ?_ ?_); · rfl) <;> (refine Todo.of ?_)))) <;> (try (first | (with_reducible rfl) | exact Nat.le_refl _ | exact Int.le_refl _ | assumption | omega))
    all_goals (simp_all [okV]; try omega)

def capA (l : Fls) : Prop := capL l ∧ ∀ f ∈ l.fs, ∀ q ∈ f.eqs, capQ q
theorem okW_few {l : Fls} (h : capA l) (hf : fewL l = true) : okW l := by
  simp only [fewL, Bool.and_eq_true, decide_eq_true_eq] at hf
  exact ⟨⟨hf.2, h.1.2⟩, h.2⟩
theorem startV_ok {l : Fls} (hw : okW l) (at_ : Int) : okCels (startV l at_) ∧ (startV l at_).length ≤ 120 := by
  unfold startV
  split
  · rename_i c
    have := okV_S hw c
    refine ⟨⟨by omega, fun x hx => ?_⟩, this.2⟩
    have := (start_path hw 11 at_ x hx).2
    simp only [capLen] at this
    omega
  · exact ⟨⟨by simp, by simp⟩, by simp⟩
noncomputable def s_lawStarts : List DV → Prop × DV := spec2 eFls eI fun l at_ => (capA l, .bool true)
theorem s_lawStarts_at (l : Fls) (at_ : Int) : s_lawStarts [.agg (cFls l), .int .i64 at_] = (capA l, .bool true) := spec2_at inj_Fls inj_I _ l at_
theorem ok_norialaw23_MemStarts : OkP Try.prog 5 s_lawStarts := by
  refine OkP.mk2 (ps := [(8, s_live), (20, s_fewL), (21, s_Count), (22, s_Count), (23, s_StartV), (24, s_StartV), (10, s_SameC), (19, s_SameC)]) (hs := []) ⟨ok_norialaw23_live, ok_norialaw23_few, ok_mem_Count, ok_noriaref23_Count, ok_mem_Start, ok_noriaref23_Start, ok_noriaref23_Same, ok_mem_Same, trivial⟩ trivial m_norialaw23_MemStarts fun l at_ h => ?_
  try dsimp only at h
  have h : capA l := h
  have e0 := s_fewL_at l
  rw [eq_true h.1] at e0
  by_cases c : fewL l = true
  · have hw := okW_few h c
    have e1 := s_Count_at l at_
    rw [eq_true hw.1] at e1
    have e2 := s_StartV_at l at_
    rw [eq_true hw] at e2
    have hs := startV_ok hw at_
    have e3 := s_SameC_at (startV l at_) (startV l at_)
    rw [eq_true hs.1, decide_eq_true rfl] at e3
    rw [c] at e0
    generalize startV l at_ = S at e2 e3
    generalize countF l at_ = C at e1
    generalize okV l at_ = b at e2
    have hbb : (b == b) = true := by cases b <;> rfl
    (have hcondQ := Bool.and_self; refine Todo.of ?_); (repeat' (first | ((with_reducible refine Todo.to ?_); (repeat (first | (simp only [↓rP, rT, rU, eI, eU, eB, eS, eBs, eL, eA, buildCells, sepsD, sepB, hdl, dvalX, DOp.kind, dval, frameFrom, dBin, dInt, dStr, dBeq, dUn, dLoad, cellsAt, retV, retL, DR.val, fzT, fzVs, fzV, fz1, DV.immB, IntKind.bits, dCallP, viewVs, viewV, view1, capVL, capV, viewL, noMemV, noMem, elemsOf, dAppend, dAppz, dStore, DV.one, alive, freezeAt, fzLL, fzL, bRow, bU, cellsOf, setFrom, DV.isU, lenMax, lenCap, Nat.reduceEqDiff, Nat.reduceAdd, ↓reduceIte, reduceCtorEq, Nat.reduceSub, Int.reduceToNat, Int.reducePow, Nat.reducePow, Int.reduceLE, Int.reduceLT, Nat.reduceLeDiff, Nat.reduceLT, Int.reduceBEq, Int.reduceBNe, Int.reduceEq, Int.reduceNe, Int.reduceAdd, Int.reduceSub, Int.reduceMul, Int.reduceNeg, Int.reduceTDiv, Int.reduceTMod, Int.reduceMod, Int.reduceDiv, Nat.reduceMul, forall_const, implies_true, d_norialaw23_MemStarts, s_live_at, s_fewL_at, s_Count_at, s_Count_at, s_StartV_at, s_StartV_at, s_SameC_at, s_SameC_at, eCel, eCels, eCloGet, eCloSame, eFl, eFls, eIls, ePl, eRCels, eRIls, eRS, eRows, eSs, eTrn, eY, sls_len, ils_len, ils_rowsT, sls_rowsT, sls_tk0, ils_tk0, cel_tk0, cel_rowsT, ofI_p, ofI_h, only_normal, e0, e1, e2, e3, hbb, beq_self_eq_true , hcondQ]) | (simp (disch := omega) only [i64_id, u64_id, u8_id, getD_map'])))) | ((with_reducible refine And.intro ?_ ?_); · first | trivial | omega | (simp; done) | (simp; omega)) | ((first | ((with_reducible refine dwp_condI (t := ?_) ?_ (fun hcQ => ?_) (fun hcQ => ?_)); rotate_left; · rfl) | ((with_reducible refine dops_guardI (t := ?_) ?_ (fun hcQ => ?_) (fun hcQ => ?_)); rotate_left; · rfl)) <;> (have hn := hcQ; have hcondQ := hcQ) <;> (try simp only [decide_eq_true_eq, decide_eq_false_iff_not, beq_iff_eq, bne_iff_ne, ne_eq, Bool.and_eq_true, Bool.or_eq_true, Bool.not_eq_true, Bool.not_eq_false, beq_eq_false_iff_ne, bne_eq_false_iff_eq, Bool.not_eq_true', Bool.not_eq_false', Int.ofNat_lt, Int.ofNat_le, Bool.or_eq_false_iff, Bool.and_eq_false_imp, Decidable.not_not, gt_iff_lt, ge_iff_le] at hn) <;> (try (exfalso; omega)) <;> (refine Todo.of ?_)) | (((with_reducible refine dwp_condA ?_ ?_ ?_); · rfl) <;> (refine Todo.of ?_)))) <;> (try (first | (with_reducible rfl) | exact Nat.le_refl _ | exact Int.le_refl _ | assumption | omega))
  · have c : fewL l = false := by simpa using c
    rw [c] at e0
    (have hcondQ := Bool.and_self; refine Todo.of ?_); (repeat' (first | ((with_reducible refine Todo.to ?_); (repeat (first | (simp only [↓rP, rT, rU, eI, eU, eB, eS, eBs, eL, eA, buildCells, sepsD, sepB, hdl, dvalX, DOp.kind, dval, frameFrom, dBin, dInt, dStr, dBeq, dUn, dLoad, cellsAt, retV, retL, DR.val, fzT, fzVs, fzV, fz1, DV.immB, IntKind.bits, dCallP, viewVs, viewV, view1, capVL, capV, viewL, noMemV, noMem, elemsOf, dAppend, dAppz, dStore, DV.one, alive, freezeAt, fzLL, fzL, bRow, bU, cellsOf, setFrom, DV.isU, lenMax, lenCap, Nat.reduceEqDiff, Nat.reduceAdd, ↓reduceIte, reduceCtorEq, Nat.reduceSub, Int.reduceToNat, Int.reducePow, Nat.reducePow, Int.reduceLE, Int.reduceLT, Nat.reduceLeDiff, Nat.reduceLT, Int.reduceBEq, Int.reduceBNe, Int.reduceEq, Int.reduceNe, Int.reduceAdd, Int.reduceSub, Int.reduceMul, Int.reduceNeg, Int.reduceTDiv, Int.reduceTMod, Int.reduceMod, Int.reduceDiv, Nat.reduceMul, forall_const, implies_true, d_norialaw23_MemStarts, s_live_at, s_fewL_at, s_Count_at, s_Count_at, s_StartV_at, s_StartV_at, s_SameC_at, s_SameC_at, eCel, eCels, eCloGet, eCloSame, eFl, eFls, eIls, ePl, eRCels, eRIls, eRS, eRows, eSs, eTrn, eY, sls_len, ils_len, ils_rowsT, sls_rowsT, sls_tk0, ils_tk0, cel_tk0, cel_rowsT, ofI_p, ofI_h, only_normal, e0 , hcondQ]) | (simp (disch := omega) only [i64_id, u64_id, u8_id, getD_map'])))) | ((with_reducible refine And.intro ?_ ?_); · first | trivial | omega | (simp; done) | (simp; omega)) | ((first | ((with_reducible refine dwp_condI (t := ?_) ?_ (fun hcQ => ?_) (fun hcQ => ?_)); rotate_left; · rfl) | ((with_reducible refine dops_guardI (t := ?_) ?_ (fun hcQ => ?_) (fun hcQ => ?_)); rotate_left; · rfl)) <;> (have hn := hcQ; have hcondQ := hcQ) <;> (try simp only [decide_eq_true_eq, decide_eq_false_iff_not, beq_iff_eq, bne_iff_ne, ne_eq, Bool.and_eq_true, Bool.or_eq_true, Bool.not_eq_true, Bool.not_eq_false, beq_eq_false_iff_ne, bne_eq_false_iff_eq, Bool.not_eq_true', Bool.not_eq_false', Int.ofNat_lt, Int.ofNat_le, Bool.or_eq_false_iff, Bool.and_eq_false_imp, Decidable.not_not, gt_iff_lt, ge_iff_le] at hn) <;> (try (exfalso; omega)) <;> (refine Todo.of ?_)) | (((with_reducible refine dwp_condA ?_ ?_ ?_); · rfl) <;> (refine Todo.of ?_)))) <;> (try (first | (with_reducible rfl) | exact Nat.le_refl _ | exact Int.le_refl _ | assumption | omega))
end Go.Proofs.Ytlbemkkfgijljaa
