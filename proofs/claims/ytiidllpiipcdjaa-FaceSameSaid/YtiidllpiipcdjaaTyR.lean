/- The page's example; which images have the same inputs and outputs; the memory of every image. -/
import Derived.Test.YtiidllpiipcdjaaTyQ
set_option linter.all false
set_option maxRecDepth 20000
namespace Go.Proofs.Ytiidllpiipcdjaa
open Go.Nk

theorem portF_refl (l : List En) (p : Prt) (h : rightTy l p.ty = true) : portF l p l p = true := by
  simp [portF, alikeF, h, sameEn]
def xLive : Img := ⟨[], [⟨[97], ⟨1, 0, 0⟩⟩], [⟨[98], ⟨1, 0, 0⟩⟩], [], [1], []⟩
noncomputable def s_live : List DV → Prop × DV := spec0 (True, .bool true)
theorem s_live_at : s_live [] = (True, .bool true) := spec0_at _
theorem ok_norialaw36_live : OkP Try.prog 9 s_live := by
  refine OkP.mk0 (ps := [(16, s_Lay), (12, s_Vals), (10, s_SameI)]) (hs := []) ⟨ok_face_Lay, ok_noriaref01_Vals, ok_SameI, trivial⟩ trivial m_norialaw36_live fun _ => ?_
  have e1 := s_Lay_at xLive [] [[5]]
  have o1 : okLay xLive [] [[5]] := ⟨⟨by decide, by decide, by decide, by decide, by decide⟩, ⟨by decide, by simp⟩, by decide, by decide⟩
  have v1 : layF xLive [] [[5]] = [5, 0, 0] := by decide
  have v2 : layOk xLive [] [[5]] = true := by decide
  rw [eq_true o1, v1, v2] at e1
  have e2 := s_SameI_at xLive xLive
  have o2 : okImg xLive := ⟨(by intro x hx; cases hx), by decide, by decide⟩
  have v3 : sameF xLive xLive = true := by decide
  rw [eq_true (show okImg xLive ∧ okImg xLive from ⟨o2, o2⟩), v3] at e2
  have e3 := s_Vals_same [5, 0, 0] (by decide)
  simp only [xLive, cImg, List.map_cons, List.map_nil, ils, cIls, cPrt] at e1 e2 e3
  (have hcond := Bool.and_self; refine Todo.of ?_); (repeat' (first | ((with_reducible refine Todo.to ?_); (repeat (first | (simp only [↓rP, rT, rU, eI, eU, eB, eS, eBs, eL, eA, buildCells, sepsD, sepB, hdl, dvalX, DOp.kind, dval, frameFrom, dBin, dInt, dStr, dBeq, dUn, dLoad, cellsAt, retV, retL, DR.val, fzT, fzVs, fzV, fz1, DV.immB, IntKind.bits, dCallP, viewVs, viewV, view1, capVL, capV, viewL, noMemV, noMem, elemsOf, dAppend, dAppz, dStore, DV.one, alive, freezeAt, fzLL, fzL, bRow, bU, cellsOf, setFrom, DV.isU, lenMax, Nat.reduceEqDiff, Nat.reduceAdd, ↓reduceIte, reduceCtorEq, Nat.reduceSub, Int.reduceToNat, Int.reducePow, Nat.reducePow, Int.reduceLE, Int.reduceLT, Nat.reduceLeDiff, Nat.reduceLT, Int.reduceBEq, Int.reduceBNe, Int.reduceEq, Int.reduceNe, Int.reduceAdd, Int.reduceSub, Int.reduceMul, Int.reduceNeg, Int.reduceTDiv, Int.reduceTMod, Int.reduceMod, Int.reduceDiv, Nat.reduceMul, forall_const, implies_true, d_norialaw36_live, s_Lay_at, s_SameI_at, eEns, eIls, eImg, eIns1, ePrt, ePrts, eRImg, eRows, eSs, eTy, sls_len, ils_len, ils_rowsT, e1, e2, e3 , hcond]) | (simp (disch := omega) only [i64_id, u64_id, u8_id, getD_map'])))) | ((with_reducible refine And.intro ?_ ?_); · first | trivial | omega | (simp; done) | (simp; omega)) | ((first | ((with_reducible refine dwp_condI (t := ?_) ?_ (fun hc => ?_) (fun hc => ?_)); rotate_left; · rfl) | ((with_reducible refine dops_guardI (t := ?_) ?_ (fun hc => ?_) (fun hc => ?_)); rotate_left; · rfl)) <;> (have hn := hc; have hcond := hc) <;> (try simp only [decide_eq_true_eq, decide_eq_false_iff_not, beq_iff_eq, bne_iff_ne, ne_eq, Bool.and_eq_true, Bool.or_eq_true, Bool.not_eq_true, Bool.not_eq_false, beq_eq_false_iff_ne, bne_eq_false_iff_eq, Bool.not_eq_true', Bool.not_eq_false', Int.ofNat_lt, Int.ofNat_le, Bool.or_eq_false_iff, Bool.and_eq_false_imp, Decidable.not_not, gt_iff_lt, ge_iff_le] at hn) <;> (try (exfalso; omega)) <;> (refine Todo.of ?_)) | (((with_reducible refine dwp_condA ?_ ?_ ?_); · rfl) <;> (refine Todo.of ?_)))) <;> (try (first | (with_reducible rfl) | exact Nat.le_refl _ | assumption))

theorem few_okImg {x : Img} (h : fewF x = true) : okImg x ∧ okShape x ∧ x.slots.length ≤ 150 ∧ ∀ s ∈ x.slots, s.ini.length ≤ 300 := by
  simp only [fewF, smallF, Bool.and_eq_true, decide_eq_true_eq, List.all_eq_true] at h
  obtain ⟨⟨⟨⟨⟨⟨⟨h1, h2⟩, h3⟩, h4⟩, h5⟩, h6⟩, h7⟩, h8⟩ := h
  refine ⟨⟨fun e he => ?_, by omega, by omega⟩, ⟨by omega, by omega, by omega, by omega, by omega⟩, h4, fun s hs => ?_⟩
  · have := h2 e he
    simp only [smallE, Bool.and_eq_true, decide_eq_true_eq] at this
    omega
  · have := h8 s hs
    simp only [fewS, Bool.and_eq_true, decide_eq_true_eq] at this
    omega
theorem startF_b : ∀ {l : List Slt} {n : Nat}, (∀ s ∈ l, s.ini.length ≤ n) → (startF l).length ≤ n * l.length
  | [], n, _ => by simp [startF]
  | s :: l, n, h => by
    have h1 := h s (by simp)
    have h2 := startF_b (l := l) (n := n) fun s hs => h s (by simp [hs])
    have e : startF (s :: l) = s.ini ++ startF l := rfl
    rw [e, List.length_append, List.length_cons, Nat.mul_succ]
    omega

noncomputable def s_lawSame : List DV → Prop × DV := spec2 eImg eImg fun a b => (okLen a ∧ okLen b, .bool true)
theorem s_lawSame_at (a : Img) (b : Img) : s_lawSame [.agg (cImg a), .agg (cImg b)] = (okLen a ∧ okLen b, .bool true) := spec2_at inj_Img inj_Img _ a b
theorem ok_norialaw36_FaceSame : OkP Try.prog 4 s_lawSame := by
  refine OkP.mk2 (ps := [(9, s_live), (7, s_Few), (10, s_SameI), (11, s_SameI), (12, s_Vals), (13, s_Start), (14, s_Start)]) (hs := []) ⟨ok_norialaw36_live, ok_noriaref33_Few, ok_SameI, ok_refSameI, ok_noriaref01_Vals, ok_Start, ok_refStart, trivial⟩ trivial m_norialaw36_FaceSame fun a b h => ?_
  try dsimp only at h
  obtain ⟨ha, hb⟩ := h
  have e1 := s_Few_at a
  have e2 := s_Few_at b
  rw [eq_true ha] at e1
  rw [eq_true hb] at e2
  by_cases q : fewF a = true ∧ fewF b = true
  · obtain ⟨q1, q2⟩ := q
    obtain ⟨o1, o2, o3, o4⟩ := few_okImg q1
    obtain ⟨o5, _, _, _⟩ := few_okImg q2
    have hs := startF_b o4
    have e3 := s_SameI_at a b
    rw [eq_true (show okImg a ∧ okImg b from ⟨o1, o5⟩)] at e3
    have e4 := s_Start_at a
    rw [eq_true (show a.slots.length ≤ 1000000000 ∧ (startF a.slots).length ≤ 1000000000 from ⟨by omega, by omega⟩)] at e4
    have e5 := s_Vals_same (startF a.slots) (by omega)
    simp only [cImg] at e1 e2 e3 e4
    (have hcond := Bool.and_self; refine Todo.of ?_); (repeat' (first | ((with_reducible refine Todo.to ?_); (repeat (first | (simp only [↓rP, rT, rU, eI, eU, eB, eS, eBs, eL, eA, buildCells, sepsD, sepB, hdl, dvalX, DOp.kind, dval, frameFrom, dBin, dInt, dStr, dBeq, dUn, dLoad, cellsAt, retV, retL, DR.val, fzT, fzVs, fzV, fz1, DV.immB, IntKind.bits, dCallP, viewVs, viewV, view1, capVL, capV, viewL, noMemV, noMem, elemsOf, dAppend, dAppz, dStore, DV.one, alive, freezeAt, fzLL, fzL, bRow, bU, cellsOf, setFrom, DV.isU, lenMax, Nat.reduceEqDiff, Nat.reduceAdd, ↓reduceIte, reduceCtorEq, Nat.reduceSub, Int.reduceToNat, Int.reducePow, Nat.reducePow, Int.reduceLE, Int.reduceLT, Nat.reduceLeDiff, Nat.reduceLT, Int.reduceBEq, Int.reduceBNe, Int.reduceEq, Int.reduceNe, Int.reduceAdd, Int.reduceSub, Int.reduceMul, Int.reduceNeg, Int.reduceTDiv, Int.reduceTMod, Int.reduceMod, Int.reduceDiv, Nat.reduceMul, forall_const, implies_true, d_norialaw36_FaceSame, s_live_at, s_Few_at, s_SameI_at, s_SameI_at, s_Start_at, s_Start_at, eEns, eIls, eImg, eIns1, ePrt, ePrts, eRImg, eRows, eSs, eTy, sls_len, ils_len, ils_rowsT, e1, e2, e3, e4, e5, q1, q2 , hcond]) | (simp (disch := omega) only [i64_id, u64_id, u8_id, getD_map'])))) | ((with_reducible refine And.intro ?_ ?_); · first | trivial | omega | (simp; done) | (simp; omega)) | ((first | ((with_reducible refine dwp_condI (t := ?_) ?_ (fun hc => ?_) (fun hc => ?_)); rotate_left; · rfl) | ((with_reducible refine dops_guardI (t := ?_) ?_ (fun hc => ?_) (fun hc => ?_)); rotate_left; · rfl)) <;> (have hn := hc; have hcond := hc) <;> (try simp only [decide_eq_true_eq, decide_eq_false_iff_not, beq_iff_eq, bne_iff_ne, ne_eq, Bool.and_eq_true, Bool.or_eq_true, Bool.not_eq_true, Bool.not_eq_false, beq_eq_false_iff_ne, bne_eq_false_iff_eq, Bool.not_eq_true', Bool.not_eq_false', Int.ofNat_lt, Int.ofNat_le, Bool.or_eq_false_iff, Bool.and_eq_false_imp, Decidable.not_not, gt_iff_lt, ge_iff_le] at hn) <;> (try (exfalso; omega)) <;> (refine Todo.of ?_)) | (((with_reducible refine dwp_condA ?_ ?_ ?_); · rfl) <;> (refine Todo.of ?_)))) <;> (try (first | (with_reducible rfl) | exact Nat.le_refl _ | assumption))
  · simp only [cImg] at e1 e2
    (have hcond := Bool.and_self; refine Todo.of ?_); (repeat' (first | ((with_reducible refine Todo.to ?_); (repeat (first | (simp only [↓rP, rT, rU, eI, eU, eB, eS, eBs, eL, eA, buildCells, sepsD, sepB, hdl, dvalX, DOp.kind, dval, frameFrom, dBin, dInt, dStr, dBeq, dUn, dLoad, cellsAt, retV, retL, DR.val, fzT, fzVs, fzV, fz1, DV.immB, IntKind.bits, dCallP, viewVs, viewV, view1, capVL, capV, viewL, noMemV, noMem, elemsOf, dAppend, dAppz, dStore, DV.one, alive, freezeAt, fzLL, fzL, bRow, bU, cellsOf, setFrom, DV.isU, lenMax, Nat.reduceEqDiff, Nat.reduceAdd, ↓reduceIte, reduceCtorEq, Nat.reduceSub, Int.reduceToNat, Int.reducePow, Nat.reducePow, Int.reduceLE, Int.reduceLT, Nat.reduceLeDiff, Nat.reduceLT, Int.reduceBEq, Int.reduceBNe, Int.reduceEq, Int.reduceNe, Int.reduceAdd, Int.reduceSub, Int.reduceMul, Int.reduceNeg, Int.reduceTDiv, Int.reduceTMod, Int.reduceMod, Int.reduceDiv, Nat.reduceMul, forall_const, implies_true, d_norialaw36_FaceSame, s_live_at, s_Few_at, s_SameI_at, s_SameI_at, s_Start_at, s_Start_at, eEns, eIls, eImg, eIns1, ePrt, ePrts, eRImg, eRows, eSs, eTy, sls_len, ils_len, ils_rowsT, e1, e2 , hcond]) | (simp (disch := omega) only [i64_id, u64_id, u8_id, getD_map'])))) | ((with_reducible refine And.intro ?_ ?_); · first | trivial | omega | (simp; done) | (simp; omega)) | ((first | ((with_reducible refine dwp_condI (t := ?_) ?_ (fun hc => ?_) (fun hc => ?_)); rotate_left; · rfl) | ((with_reducible refine dops_guardI (t := ?_) ?_ (fun hc => ?_) (fun hc => ?_)); rotate_left; · rfl)) <;> (have hn := hc; have hcond := hc) <;> (try simp only [decide_eq_true_eq, decide_eq_false_iff_not, beq_iff_eq, bne_iff_ne, ne_eq, Bool.and_eq_true, Bool.or_eq_true, Bool.not_eq_true, Bool.not_eq_false, beq_eq_false_iff_ne, bne_eq_false_iff_eq, Bool.not_eq_true', Bool.not_eq_false', Int.ofNat_lt, Int.ofNat_le, Bool.or_eq_false_iff, Bool.and_eq_false_imp, Decidable.not_not, gt_iff_lt, ge_iff_le] at hn) <;> (try (exfalso; omega)) <;> (refine Todo.of ?_)) | (((with_reducible refine dwp_condA ?_ ?_ ?_); · rfl) <;> (refine Todo.of ?_)))) <;> (try (first | (with_reducible rfl) | exact Nat.le_refl _ | assumption))
    all_goals (exfalso; apply q; exact ⟨by assumption, by assumption⟩)
noncomputable def s_lawTells : List DV → Prop × DV := spec2 eImg eIls fun x c => (okLen x, .bool true)
theorem s_lawTells_at (x : Img) (c : List Int) : s_lawTells [.agg (cImg x), .sl (ils c)] = (okLen x, .bool true) := spec2_at inj_Img inj_Ils _ x c
theorem ok_norialaw36_FaceTells : OkP Try.prog 6 s_lawTells := by
  refine OkP.mk2 (ps := [(9, s_live), (7, s_Few), (21, s_Told), (22, s_Told), (20, s_State), (23, s_State), (24, s_SameRows), (12, s_Vals)]) (hs := []) ⟨ok_norialaw36_live, ok_noriaref33_Few, ok_face_Told, ok_noriaref36_Told, ok_face_State, ok_noriaref36_State, ok_noriaref24_SameRows, ok_noriaref01_Vals, trivial⟩ trivial m_norialaw36_FaceTells fun x c h => ?_
  try dsimp only at h
  have e1 := s_Few_at x
  rw [eq_true h] at e1
  by_cases q : fewF x = true ∧ c.length ≤ 4000
  · obtain ⟨q1, q2⟩ := q
    obtain ⟨o1, o2, o3, o4⟩ := few_okImg q1
    have oc : okCells x c := ⟨o2, by omega⟩
    have e2 := s_Told_at x c
    have e3 := s_State_at x c
    rw [eq_true oc] at e2 e3
    have e4 := s_Vals_same (stateF x c) (by unfold stateF; split <;> simp <;> omega)
    have e5 := s_SameRows_same (toldF x c) (by
      have key : ∀ (l : List Prt) (a : Int), (toldA c a l).length = l.length ∧ ∀ r ∈ toldA c a l, r.length ≤ c.length := by
        intro l
        induction l with
        | nil => intro a; simp [toldA]
        | cons p l ih =>
          intro a
          have := ih (a + cellsTy p.ty)
          simp only [toldA, List.length_cons, this.1, List.mem_cons, true_and]
          rintro r (rfl | hr)
          · simp; omega
          · exact this.2 r hr
      have := key x.outs (shapeF x).hi
      have ho := o2.2.2.2.1
      unfold toldF
      split
      · refine ⟨by omega, fun l hl => ?_⟩
        have := this.2 l hl
        omega
      · exact ⟨by simp, by simp⟩)
    simp only [cImg] at e1 e2 e3
    (have hcond := Bool.and_self; refine Todo.of ?_); (repeat' (first | ((with_reducible refine Todo.to ?_); (repeat (first | (simp only [↓rP, rT, rU, eI, eU, eB, eS, eBs, eL, eA, buildCells, sepsD, sepB, hdl, dvalX, DOp.kind, dval, frameFrom, dBin, dInt, dStr, dBeq, dUn, dLoad, cellsAt, retV, retL, DR.val, fzT, fzVs, fzV, fz1, DV.immB, IntKind.bits, dCallP, viewVs, viewV, view1, capVL, capV, viewL, noMemV, noMem, elemsOf, dAppend, dAppz, dStore, DV.one, alive, freezeAt, fzLL, fzL, bRow, bU, cellsOf, setFrom, DV.isU, lenMax, Nat.reduceEqDiff, Nat.reduceAdd, ↓reduceIte, reduceCtorEq, Nat.reduceSub, Int.reduceToNat, Int.reducePow, Nat.reducePow, Int.reduceLE, Int.reduceLT, Nat.reduceLeDiff, Nat.reduceLT, Int.reduceBEq, Int.reduceBNe, Int.reduceEq, Int.reduceNe, Int.reduceAdd, Int.reduceSub, Int.reduceMul, Int.reduceNeg, Int.reduceTDiv, Int.reduceTMod, Int.reduceMod, Int.reduceDiv, Nat.reduceMul, forall_const, implies_true, d_norialaw36_FaceTells, s_live_at, s_Few_at, s_Told_at, s_Told_at, s_State_at, s_State_at, eEns, eIls, eImg, eIns1, ePrt, ePrts, eRImg, eRows, eSs, eTy, sls_len, ils_len, ils_rowsT, e1, e2, e3, e4, e5, q1 , hcond]) | (simp (disch := omega) only [i64_id, u64_id, u8_id, getD_map'])))) | ((with_reducible refine And.intro ?_ ?_); · first | trivial | omega | (simp; done) | (simp; omega)) | ((first | ((with_reducible refine dwp_condI (t := ?_) ?_ (fun hc => ?_) (fun hc => ?_)); rotate_left; · rfl) | ((with_reducible refine dops_guardI (t := ?_) ?_ (fun hc => ?_) (fun hc => ?_)); rotate_left; · rfl)) <;> (have hn := hc; have hcond := hc) <;> (try simp only [decide_eq_true_eq, decide_eq_false_iff_not, beq_iff_eq, bne_iff_ne, ne_eq, Bool.and_eq_true, Bool.or_eq_true, Bool.not_eq_true, Bool.not_eq_false, beq_eq_false_iff_ne, bne_eq_false_iff_eq, Bool.not_eq_true', Bool.not_eq_false', Int.ofNat_lt, Int.ofNat_le, Bool.or_eq_false_iff, Bool.and_eq_false_imp, Decidable.not_not, gt_iff_lt, ge_iff_le] at hn) <;> (try (exfalso; omega)) <;> (refine Todo.of ?_)) | (((with_reducible refine dwp_condA ?_ ?_ ?_); · rfl) <;> (refine Todo.of ?_)))) <;> (try (first | (with_reducible rfl) | exact Nat.le_refl _ | assumption))
  · simp only [cImg] at e1
    (have hcond := Bool.and_self; refine Todo.of ?_); (repeat' (first | ((with_reducible refine Todo.to ?_); (repeat (first | (simp only [↓rP, rT, rU, eI, eU, eB, eS, eBs, eL, eA, buildCells, sepsD, sepB, hdl, dvalX, DOp.kind, dval, frameFrom, dBin, dInt, dStr, dBeq, dUn, dLoad, cellsAt, retV, retL, DR.val, fzT, fzVs, fzV, fz1, DV.immB, IntKind.bits, dCallP, viewVs, viewV, view1, capVL, capV, viewL, noMemV, noMem, elemsOf, dAppend, dAppz, dStore, DV.one, alive, freezeAt, fzLL, fzL, bRow, bU, cellsOf, setFrom, DV.isU, lenMax, Nat.reduceEqDiff, Nat.reduceAdd, ↓reduceIte, reduceCtorEq, Nat.reduceSub, Int.reduceToNat, Int.reducePow, Nat.reducePow, Int.reduceLE, Int.reduceLT, Nat.reduceLeDiff, Nat.reduceLT, Int.reduceBEq, Int.reduceBNe, Int.reduceEq, Int.reduceNe, Int.reduceAdd, Int.reduceSub, Int.reduceMul, Int.reduceNeg, Int.reduceTDiv, Int.reduceTMod, Int.reduceMod, Int.reduceDiv, Nat.reduceMul, forall_const, implies_true, d_norialaw36_FaceTells, s_live_at, s_Few_at, s_Told_at, s_Told_at, s_State_at, s_State_at, eEns, eIls, eImg, eIns1, ePrt, ePrts, eRImg, eRows, eSs, eTy, sls_len, ils_len, ils_rowsT, e1 , hcond]) | (simp (disch := omega) only [i64_id, u64_id, u8_id, getD_map'])))) | ((with_reducible refine And.intro ?_ ?_); · first | trivial | omega | (simp; done) | (simp; omega)) | ((first | ((with_reducible refine dwp_condI (t := ?_) ?_ (fun hc => ?_) (fun hc => ?_)); rotate_left; · rfl) | ((with_reducible refine dops_guardI (t := ?_) ?_ (fun hc => ?_) (fun hc => ?_)); rotate_left; · rfl)) <;> (have hn := hc; have hcond := hc) <;> (try simp only [decide_eq_true_eq, decide_eq_false_iff_not, beq_iff_eq, bne_iff_ne, ne_eq, Bool.and_eq_true, Bool.or_eq_true, Bool.not_eq_true, Bool.not_eq_false, beq_eq_false_iff_ne, bne_eq_false_iff_eq, Bool.not_eq_true', Bool.not_eq_false', Int.ofNat_lt, Int.ofNat_le, Bool.or_eq_false_iff, Bool.and_eq_false_imp, Decidable.not_not, gt_iff_lt, ge_iff_le] at hn) <;> (try (exfalso; omega)) <;> (refine Todo.of ?_)) | (((with_reducible refine dwp_condA ?_ ?_ ?_); · rfl) <;> (refine Todo.of ?_)))) <;> (try (first | (with_reducible rfl) | exact Nat.le_refl _ | assumption))
    all_goals (exfalso; apply q; exact ⟨by assumption, by omega⟩)
noncomputable def s_lawLays : List DV → Prop × DV := spec3 eImg eIls eRows fun x s v => (okLen x, .bool true)
theorem s_lawLays_at (x : Img) (s : List Int) (v : List (List Int)) : s_lawLays [.agg (cImg x), .sl (ils s), .sl (v.map cIls)] = (okLen x, .bool true) := spec3_at inj_Img inj_Ils inj_Rows _ x s v
theorem ok_norialaw36_FaceLays : OkP Try.prog 5 s_lawLays := by
  refine OkP.mk3 (ps := [(9, s_live), (7, s_Few), (15, s_fewR), (16, s_Lay), (17, s_Lay), (18, s_InsF), (19, s_InsF), (20, s_State), (12, s_Vals)]) (hs := []) ⟨ok_norialaw36_live, ok_noriaref33_Few, ok_norialaw36_few, ok_face_Lay, ok_noriaref36_Lay, ok_face_Ins, ok_noriaref36_Ins, ok_face_State, ok_noriaref01_Vals, trivial⟩ trivial m_norialaw36_FaceLays fun x s v h => ?_
  try dsimp only at h
  have e1 := s_Few_at x
  rw [eq_true h] at e1
  by_cases q : fewF x = true ∧ s.length ≤ 1300 ∧ fewR v = true
  · obtain ⟨q1, q2, q3⟩ := q
    obtain ⟨o1, o2, o3, o4⟩ := few_okImg q1
    have hk := kinds_b o2
    have q4 := q3
    simp only [fewR, Bool.and_eq_true, decide_eq_true_eq, List.all_eq_true] at q4
    have hf : v.flatten.length ≤ 600 := by
      have key : ∀ l : List (List Int), (∀ r ∈ l, r.length ≤ 30) → l.flatten.length ≤ 30 * l.length := by
        intro l
        induction l with
        | nil => intro _; simp
        | cons r l ih => intro hh; have h1 := hh r (by simp); have h2 := ih fun r hr => hh r (by simp [hr]); rw [List.flatten_cons, List.length_append, List.length_cons]; omega
      have := key v q4.2
      omega
    have ov : okRows v := ⟨by omega, fun l hl => by have := q4.2 l hl; omega⟩
    have ol : okLay x s v := ⟨o2, ov, by omega, by omega⟩
    have e2 := s_Lay_at x s v
    rw [eq_true ol] at e2
    have e3 := s_InsF_at x v
    rw [eq_true (show x.ins.length ≤ 1000000 ∧ okRows v from ⟨o2.2.2.1, ov⟩)] at e3
    have e4 := s_State_at x (layF x s v)
    have hl : (layF x s v).length ≤ 1000000000 := by
      unfold layF; split
      · simp only [memF, padF, List.length_append, List.length_replicate]; omega
      · simp
    rw [eq_true (show okCells x (layF x s v) from ⟨o2, hl⟩)] at e4
    have e5 := s_Vals_same (layF x s v) hl
    have e6 := s_Vals_same s (by omega)
    simp only [cImg] at e1 e2 e3 e4
    by_cases ok : layOk x s v = true
    · have okk := ok
      simp only [layOk, Bool.and_eq_true, beq_iff_eq] at okk
      have g1 : (layF x s v) = memF x s v := by simp [layF, ok]
      have klen : (kindsA (x.slots.map (·.ty))).length = s.length := by
        have key : ∀ l : List Slt, ((kindsA (l.map (·.ty))).length : Int) = sumC l := by
          intro l
          have k2 : ∀ (l : List Slt) (n : Int), l.foldl (fun n s => n + cellsTy s.ty) n = n + (kindsA (l.map (·.ty))).length := by
            intro l
            induction l with
            | nil => intro n; simp [kindsA]
            | cons a l ih => intro n; rw [List.foldl_cons, ih, List.map_cons, kindsA_cons, List.length_append, Int.natCast_add, kindsOf_cells]; omega
          unfold sumC
          rw [k2]; omega
        have := key x.slots
        omega
      have ilen : ((kindsA (x.ins.map (·.ty))).length : Int) = v.flatten.length := by
        have key : ∀ (p : List Prt) (v : List (List Int)), allZ (fun p l => rightV x.en p.ty l) p v = true → ((kindsA (p.map (·.ty))).length : Int) = v.flatten.length := by
          intro p
          induction p with
          | nil => intro v hv; cases v with
            | nil => rfl
            | cons => cases hv
          | cons p l ih => intro v hv; cases v with
            | nil => cases hv
            | cons r v =>
              simp only [allZ, Bool.and_eq_true, rightV, beq_iff_eq] at hv
              have := ih v hv.2
              rw [List.map_cons, kindsA_cons, List.length_append, Int.natCast_add, kindsOf_cells, List.flatten_cons, List.length_append, Int.natCast_add]
              omega
        exact key x.ins v okk.2
      have g2 : fitsF x (layF x s v) = true := by
        rw [g1]
        simp only [fitsF, memF, padF, beq_iff_eq, List.length_append, List.length_replicate, shapeF, kO, kI, kS]
        omega
      have g3 : stateF x (layF x s v) = s := by
        unfold stateF
        rw [if_pos g2, g1]
        simp only [memF, padF, shapeF, kS, Int.toNat_natCast, klen, List.append_assoc]
        exact List.take_left
      rw [g2, g3] at e4
      (have hcond := Bool.and_self; refine Todo.of ?_); (repeat' (first | ((with_reducible refine Todo.to ?_); (repeat (first | (simp only [↓rP, rT, rU, eI, eU, eB, eS, eBs, eL, eA, buildCells, sepsD, sepB, hdl, dvalX, DOp.kind, dval, frameFrom, dBin, dInt, dStr, dBeq, dUn, dLoad, cellsAt, retV, retL, DR.val, fzT, fzVs, fzV, fz1, DV.immB, IntKind.bits, dCallP, viewVs, viewV, view1, capVL, capV, viewL, noMemV, noMem, elemsOf, dAppend, dAppz, dStore, DV.one, alive, freezeAt, fzLL, fzL, bRow, bU, cellsOf, setFrom, DV.isU, lenMax, Nat.reduceEqDiff, Nat.reduceAdd, ↓reduceIte, reduceCtorEq, Nat.reduceSub, Int.reduceToNat, Int.reducePow, Nat.reducePow, Int.reduceLE, Int.reduceLT, Nat.reduceLeDiff, Nat.reduceLT, Int.reduceBEq, Int.reduceBNe, Int.reduceEq, Int.reduceNe, Int.reduceAdd, Int.reduceSub, Int.reduceMul, Int.reduceNeg, Int.reduceTDiv, Int.reduceTMod, Int.reduceMod, Int.reduceDiv, Nat.reduceMul, forall_const, implies_true, d_norialaw36_FaceLays, s_live_at, s_Few_at, s_fewR_at, s_Lay_at, s_Lay_at, s_InsF_at, s_InsF_at, s_State_at, eEns, eIls, eImg, eIns1, ePrt, ePrts, eRImg, eRows, eSs, eTy, sls_len, ils_len, ils_rowsT, e1, e2, e3, e4, e5, e6, q1, q3, ok , hcond]) | (simp (disch := omega) only [i64_id, u64_id, u8_id, getD_map'])))) | ((with_reducible refine And.intro ?_ ?_); · first | trivial | omega | (simp; done) | (simp; omega)) | ((first | ((with_reducible refine dwp_condI (t := ?_) ?_ (fun hc => ?_) (fun hc => ?_)); rotate_left; · rfl) | ((with_reducible refine dops_guardI (t := ?_) ?_ (fun hc => ?_) (fun hc => ?_)); rotate_left; · rfl)) <;> (have hn := hc; have hcond := hc) <;> (try simp only [decide_eq_true_eq, decide_eq_false_iff_not, beq_iff_eq, bne_iff_ne, ne_eq, Bool.and_eq_true, Bool.or_eq_true, Bool.not_eq_true, Bool.not_eq_false, beq_eq_false_iff_ne, bne_eq_false_iff_eq, Bool.not_eq_true', Bool.not_eq_false', Int.ofNat_lt, Int.ofNat_le, Bool.or_eq_false_iff, Bool.and_eq_false_imp, Decidable.not_not, gt_iff_lt, ge_iff_le] at hn) <;> (try (exfalso; omega)) <;> (refine Todo.of ?_)) | (((with_reducible refine dwp_condA ?_ ?_ ?_); · rfl) <;> (refine Todo.of ?_)))) <;> (try (first | (with_reducible rfl) | exact Nat.le_refl _ | assumption))
    · rw [Bool.not_eq_true] at ok
      rw [ok] at e2
      (have hcond := Bool.and_self; refine Todo.of ?_); (repeat' (first | ((with_reducible refine Todo.to ?_); (repeat (first | (simp only [↓rP, rT, rU, eI, eU, eB, eS, eBs, eL, eA, buildCells, sepsD, sepB, hdl, dvalX, DOp.kind, dval, frameFrom, dBin, dInt, dStr, dBeq, dUn, dLoad, cellsAt, retV, retL, DR.val, fzT, fzVs, fzV, fz1, DV.immB, IntKind.bits, dCallP, viewVs, viewV, view1, capVL, capV, viewL, noMemV, noMem, elemsOf, dAppend, dAppz, dStore, DV.one, alive, freezeAt, fzLL, fzL, bRow, bU, cellsOf, setFrom, DV.isU, lenMax, Nat.reduceEqDiff, Nat.reduceAdd, ↓reduceIte, reduceCtorEq, Nat.reduceSub, Int.reduceToNat, Int.reducePow, Nat.reducePow, Int.reduceLE, Int.reduceLT, Nat.reduceLeDiff, Nat.reduceLT, Int.reduceBEq, Int.reduceBNe, Int.reduceEq, Int.reduceNe, Int.reduceAdd, Int.reduceSub, Int.reduceMul, Int.reduceNeg, Int.reduceTDiv, Int.reduceTMod, Int.reduceMod, Int.reduceDiv, Nat.reduceMul, forall_const, implies_true, d_norialaw36_FaceLays, s_live_at, s_Few_at, s_fewR_at, s_Lay_at, s_Lay_at, s_InsF_at, s_InsF_at, s_State_at, eEns, eIls, eImg, eIns1, ePrt, ePrts, eRImg, eRows, eSs, eTy, sls_len, ils_len, ils_rowsT, e1, e2, e3, e4, e5, q1, q3, ok , hcond]) | (simp (disch := omega) only [i64_id, u64_id, u8_id, getD_map'])))) | ((with_reducible refine And.intro ?_ ?_); · first | trivial | omega | (simp; done) | (simp; omega)) | ((first | ((with_reducible refine dwp_condI (t := ?_) ?_ (fun hc => ?_) (fun hc => ?_)); rotate_left; · rfl) | ((with_reducible refine dops_guardI (t := ?_) ?_ (fun hc => ?_) (fun hc => ?_)); rotate_left; · rfl)) <;> (have hn := hc; have hcond := hc) <;> (try simp only [decide_eq_true_eq, decide_eq_false_iff_not, beq_iff_eq, bne_iff_ne, ne_eq, Bool.and_eq_true, Bool.or_eq_true, Bool.not_eq_true, Bool.not_eq_false, beq_eq_false_iff_ne, bne_eq_false_iff_eq, Bool.not_eq_true', Bool.not_eq_false', Int.ofNat_lt, Int.ofNat_le, Bool.or_eq_false_iff, Bool.and_eq_false_imp, Decidable.not_not, gt_iff_lt, ge_iff_le] at hn) <;> (try (exfalso; omega)) <;> (refine Todo.of ?_)) | (((with_reducible refine dwp_condA ?_ ?_ ?_); · rfl) <;> (refine Todo.of ?_)))) <;> (try (first | (with_reducible rfl) | exact Nat.le_refl _ | assumption))
  · simp only [cImg] at e1
    (have hcond := Bool.and_self; refine Todo.of ?_); (repeat' (first | ((with_reducible refine Todo.to ?_); (repeat (first | (simp only [↓rP, rT, rU, eI, eU, eB, eS, eBs, eL, eA, buildCells, sepsD, sepB, hdl, dvalX, DOp.kind, dval, frameFrom, dBin, dInt, dStr, dBeq, dUn, dLoad, cellsAt, retV, retL, DR.val, fzT, fzVs, fzV, fz1, DV.immB, IntKind.bits, dCallP, viewVs, viewV, view1, capVL, capV, viewL, noMemV, noMem, elemsOf, dAppend, dAppz, dStore, DV.one, alive, freezeAt, fzLL, fzL, bRow, bU, cellsOf, setFrom, DV.isU, lenMax, Nat.reduceEqDiff, Nat.reduceAdd, ↓reduceIte, reduceCtorEq, Nat.reduceSub, Int.reduceToNat, Int.reducePow, Nat.reducePow, Int.reduceLE, Int.reduceLT, Nat.reduceLeDiff, Nat.reduceLT, Int.reduceBEq, Int.reduceBNe, Int.reduceEq, Int.reduceNe, Int.reduceAdd, Int.reduceSub, Int.reduceMul, Int.reduceNeg, Int.reduceTDiv, Int.reduceTMod, Int.reduceMod, Int.reduceDiv, Nat.reduceMul, forall_const, implies_true, d_norialaw36_FaceLays, s_live_at, s_Few_at, s_fewR_at, s_Lay_at, s_Lay_at, s_InsF_at, s_InsF_at, s_State_at, eEns, eIls, eImg, eIns1, ePrt, ePrts, eRImg, eRows, eSs, eTy, sls_len, ils_len, ils_rowsT, e1 , hcond]) | (simp (disch := omega) only [i64_id, u64_id, u8_id, getD_map'])))) | ((with_reducible refine And.intro ?_ ?_); · first | trivial | omega | (simp; done) | (simp; omega)) | ((first | ((with_reducible refine dwp_condI (t := ?_) ?_ (fun hc => ?_) (fun hc => ?_)); rotate_left; · rfl) | ((with_reducible refine dops_guardI (t := ?_) ?_ (fun hc => ?_) (fun hc => ?_)); rotate_left; · rfl)) <;> (have hn := hc; have hcond := hc) <;> (try simp only [decide_eq_true_eq, decide_eq_false_iff_not, beq_iff_eq, bne_iff_ne, ne_eq, Bool.and_eq_true, Bool.or_eq_true, Bool.not_eq_true, Bool.not_eq_false, beq_eq_false_iff_ne, bne_eq_false_iff_eq, Bool.not_eq_true', Bool.not_eq_false', Int.ofNat_lt, Int.ofNat_le, Bool.or_eq_false_iff, Bool.and_eq_false_imp, Decidable.not_not, gt_iff_lt, ge_iff_le] at hn) <;> (try (exfalso; omega)) <;> (refine Todo.of ?_)) | (((with_reducible refine dwp_condA ?_ ?_ ?_); · rfl) <;> (refine Todo.of ?_)))) <;> (try (first | (with_reducible rfl) | exact Nat.le_refl _ | assumption))
    all_goals (exfalso; apply q; exact ⟨by assumption, by omega, by assumption⟩)
end Go.Proofs.Ytiidllpiipcdjaa
