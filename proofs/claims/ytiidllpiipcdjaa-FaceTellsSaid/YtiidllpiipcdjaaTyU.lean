/- Having the same inputs and outputs holds both ways round, and through thirds. -/
import Derived.Test.YtiidllpiipcdjaaTyR
import Derived.Test.YtiidllpiipcdjaaTyT
set_option linter.all false
set_option maxRecDepth 20000
namespace Go.Proofs.Ytiidllpiipcdjaa
open Go.Nk

theorem alikeF_symm (a b : List En) (t u : Ty) : alikeF a t b u = alikeF b u a t := by
  have hs : ∀ x y : En, sameEn x y = sameEn y x := fun x y => by
    rw [Bool.eq_iff_iff]
    simp only [sameEn, Bool.and_eq_true, decide_eq_true_eq]
    exact ⟨fun h => ⟨h.1.symm, h.2.symm⟩, fun h => ⟨h.1.symm, h.2.symm⟩⟩
  unfold alikeF
  by_cases h : t.k = u.k
  · rw [h, hs]
    have h1 : (t.n == u.n) = (u.n == t.n) := BEq.comm
    rw [h1]
    cases rightTy a t <;> cases rightTy b u <;> rfl
  · have h1 : (t.k == u.k) = false := by simpa using h
    have h2 : (u.k == t.k) = false := by simpa using fun e => h e.symm
    simp [h1, h2]
theorem alikeF_trans {a b c : List En} {t u v : Ty} (h1 : alikeF a t b u = true) (h2 : alikeF b u c v = true) : alikeF a t c v = true := by
  simp only [alikeF, Bool.and_eq_true, beq_iff_eq] at h1 h2 ⊢
  obtain ⟨⟨⟨⟨p1, p2⟩, p3⟩, p4⟩, p5⟩ := h1
  obtain ⟨⟨⟨⟨q1, q2⟩, q3⟩, q4⟩, q5⟩ := h2
  refine ⟨⟨⟨⟨p1, q2⟩, p3.trans q3⟩, p4.trans q4⟩, ?_⟩
  rw [← p3] at q5
  split
  · rename_i h
    rw [if_pos h] at p5 q5
    simp only [sameEn, Bool.and_eq_true, decide_eq_true_eq] at p5 q5 ⊢
    exact ⟨p5.1.trans q5.1, p5.2.trans q5.2⟩
  · rfl
theorem allP_symm {a b : List En} : ∀ (p q : List Prt), allP a p b q = allP b q a p
  | [], [] => rfl
  | [], _ :: _ => rfl
  | _ :: _, [] => rfl
  | x :: p, y :: q => by
    have ih := allP_symm (a := a) (b := b) p q
    simp only [allP, List.zip_cons_cons, List.all_cons, portF] at ih ⊢
    rw [ih, alikeF_symm]
    have e : decide (x.name = y.name) = decide (y.name = x.name) := by rw [Bool.eq_iff_iff]; simp only [decide_eq_true_eq]; exact ⟨Eq.symm, Eq.symm⟩
    rw [e]
theorem allP_trans {a b c : List En} : ∀ (p q r : List Prt), p.length = q.length → q.length = r.length → allP a p b q = true → allP b q c r = true → allP a p c r = true
  | [], _, _, _, _, _, _ => by simp [allP]
  | _ :: _, [], _, h, _, _, _ => by simp at h
  | _ :: _, _ :: _, [], _, h, _, _ => by simp at h
  | x :: p, y :: q, z :: r, h1, h2, h3, h4 => by
    simp only [allP, List.zip_cons_cons, List.all_cons, portF, Bool.and_eq_true, decide_eq_true_eq] at h3 h4 ⊢
    exact ⟨⟨h3.1.1.trans h4.1.1, alikeF_trans h3.1.2 h4.1.2⟩, allP_trans p q r (by simpa using h1) (by simpa using h2) h3.2 h4.2⟩
theorem sameF_symm (a b : Img) : sameF a b = sameF b a := by
  have hl : ∀ p q : List Prt, (p.length == q.length) = (q.length == p.length) := fun p q => BEq.comm
  simp only [sameF, portsF, allP_symm (a := a.en) (b := b.en), hl a.ins b.ins, hl a.outs b.outs]
theorem sameF_trans {a b c : Img} (h1 : sameF a b = true) (h2 : sameF b c = true) : sameF a c = true := by
  simp only [sameF, portsF, Bool.and_eq_true, beq_iff_eq] at h1 h2 ⊢
  exact ⟨⟨h1.1.1.trans h2.1.1, allP_trans _ _ _ h1.1.1 h2.1.1 h1.1.2 h2.1.2⟩, h1.2.1.trans h2.2.1, allP_trans _ _ _ h1.2.1 h2.2.1 h1.2.2 h2.2.2⟩

@[reducible] def cThree (x : Img × Img × Img) : List DV := [.sl (x.1.en.map cEn), .sl (x.1.ins.map cPrt), .sl (x.1.outs.map cPrt), .sl (x.1.slots.map cSlt), .sl (ils x.1.loc), .sl (x.1.code.map cIn4),
  .sl (x.2.1.en.map cEn), .sl (x.2.1.ins.map cPrt), .sl (x.2.1.outs.map cPrt), .sl (x.2.1.slots.map cSlt), .sl (ils x.2.1.loc), .sl (x.2.1.code.map cIn4),
  .sl (x.2.2.en.map cEn), .sl (x.2.2.ins.map cPrt), .sl (x.2.2.outs.map cPrt), .sl (x.2.2.slots.map cSlt), .sl (ils x.2.2.loc), .sl (x.2.2.code.map cIn4)]
theorem cThree_inj : ∀ x y, cThree x = cThree y → x = y := by
  rintro ⟨a, b, c⟩ ⟨a', b', c'⟩ h
  have h1 := congrArg (List.take 6) h
  have h2 := congrArg (fun l => (l.drop 6).take 6) h
  have h3 := congrArg (List.drop 12) h
  have e1 : a = a' := cImg_inj _ _ h1
  have e2 : b = b' := cImg_inj _ _ h2
  have e3 : c = c' := cImg_inj _ _ h3
  rw [e1, e2, e3]
abbrev eThree : Img × Img × Img → DV := eA cThree
theorem inj_Three : Inj eThree := inj_A cThree_inj
def goodI (x : Img) : Bool := fewF x && enumsF x.en == 0
noncomputable def s_lawThirds : List DV → Prop × DV := spec1 eThree fun x => (okLen x.1 ∧ okLen x.2.1 ∧ okLen x.2.2, .bool true)
theorem s_lawThirds_at (x : Img × Img × Img) : s_lawThirds [.agg (cThree x)] = (okLen x.1 ∧ okLen x.2.1 ∧ okLen x.2.2, .bool true) := spec1_at inj_Three _ x
theorem ok_norialaw36_FaceThirds : OkP Try.prog 3 s_lawThirds := by
  refine OkP.mk1 (ps := [(9, s_live), (7, s_Few), (8, s_EnumsF), (10, s_SameI)]) (hs := []) ⟨ok_norialaw36_live, ok_noriaref33_Few, ok_noriaref05_Enums, ok_SameI, trivial⟩ trivial m_norialaw36_FaceThirds fun x h => ?_
  try dsimp only at h
  obtain ⟨a, b, c⟩ := x
  obtain ⟨ha, hb, hc⟩ := h
  have e1 := s_Few_at a
  have e2 := s_Few_at b
  have e3 := s_Few_at c
  rw [eq_true ha] at e1
  rw [eq_true hb] at e2
  rw [eq_true hc] at e3
  simp only [cImg] at e1 e2 e3
  (have hcond := Bool.and_self; refine Todo.of ?_); (repeat' (first | ((with_reducible refine Todo.to ?_); (repeat (first | (simp only [↓rP, rT, rU, eI, eU, eB, eS, eBs, eL, eA, buildCells, sepsD, sepB, hdl, dvalX, DOp.kind, dval, frameFrom, dBin, dInt, dStr, dBeq, dUn, dLoad, cellsAt, retV, retL, DR.val, fzT, fzVs, fzV, fz1, DV.immB, IntKind.bits, dCallP, viewVs, viewV, view1, capVL, capV, viewL, noMemV, noMem, elemsOf, dAppend, dAppz, dStore, DV.one, alive, freezeAt, fzLL, fzL, bRow, bU, cellsOf, setFrom, DV.isU, lenMax, Nat.reduceEqDiff, Nat.reduceAdd, ↓reduceIte, reduceCtorEq, Nat.reduceSub, Int.reduceToNat, Int.reducePow, Nat.reducePow, Int.reduceLE, Int.reduceLT, Nat.reduceLeDiff, Nat.reduceLT, Int.reduceBEq, Int.reduceBNe, Int.reduceEq, Int.reduceNe, Int.reduceAdd, Int.reduceSub, Int.reduceMul, Int.reduceNeg, Int.reduceTDiv, Int.reduceTMod, Int.reduceMod, Int.reduceDiv, Nat.reduceMul, forall_const, implies_true, d_norialaw36_FaceThirds, s_live_at, s_Few_at, s_EnumsF_at, s_SameI_at, eEns, eIls, eImg, eIns1, ePrt, ePrts, eRImg, eRows, eSs, eThree, eTy, eY, sls_len, ils_len, ils_rowsT, sls_rowsT, sls_tk0 , hcond]) | (simp (disch := omega) only [i64_id, u64_id, u8_id, getD_map'])))) | ((with_reducible refine And.intro ?_ ?_); · first | trivial | omega | (simp; done) | (simp; omega)) | ((first | ((with_reducible refine dwp_condI (t := ?_) ?_ (fun hc => ?_) (fun hc => ?_)); rotate_left; · rfl) | ((with_reducible refine dops_guardI (t := ?_) ?_ (fun hc => ?_) (fun hc => ?_)); rotate_left; · rfl)) <;> (have hn := hc; have hcond := hc) <;> (try simp only [decide_eq_true_eq, decide_eq_false_iff_not, beq_iff_eq, bne_iff_ne, ne_eq, Bool.and_eq_true, Bool.or_eq_true, Bool.not_eq_true, Bool.not_eq_false, beq_eq_false_iff_ne, bne_eq_false_iff_eq, Bool.not_eq_true', Bool.not_eq_false', Int.ofNat_lt, Int.ofNat_le, Bool.or_eq_false_iff, Bool.and_eq_false_imp, Decidable.not_not, gt_iff_lt, ge_iff_le] at hn) <;> (try (exfalso; omega)) <;> (refine Todo.of ?_)) | (((with_reducible refine dwp_condA ?_ ?_ ?_); · rfl) <;> (refine Todo.of ?_)))) <;> (try (first | (with_reducible rfl) | exact Nat.le_refl _ | assumption))
  refine dwp_loop (fun k : Nat => ⟨[(1, .ptr 0 1 0 0), (3, .int .i64 k)], [⟨.loc, 18, [cThree (a, b, c)]⟩]⟩) (fun k => k ≤ 3 ∧ (0 < k → fewF a = true) ∧ (1 < k → fewF b = true) ∧ (2 < k → fewF c = true)) (fun k => 3 - k) 0 (by exact Nat.zero_le _) ?_ ⟨by omega, by omega, by omega, by omega⟩ fun k hk => ?_
  · simp only [cut_some, cut_none, List.map_cons, List.map_nil, get_cons, Nk.get_nil, Nat.reduceEqDiff, ↓reduceIte, Nat.succ_ne_self, DV.cut, DV.inB, DObj.cut, List.take_nil, List.take_zero, if_true, Nat.zero_ne_one, Nat.one_ne_zero, DV.inBL, Bool.and_true, Bool.true_and, reduceCtorEq, Nat.zero_lt_one, decide_true, decide_false, Nat.reduceLT, List.take_succ_cons]; rfl
  obtain ⟨hk, k1, k2, k3⟩ := hk
  have n0 : ((0 : Nat) : Int) = 0 := rfl
  have n1 : ((1 : Nat) : Int) = 1 := rfl
  have n2 : ((2 : Nat) : Int) = 2 := rfl
  have n3 : ((3 : Nat) : Int) = 3 := rfl
  match k, hk with
  | 0, _ =>
    (have hcond := Bool.and_self; refine Todo.of ?_); (repeat' (first | ((with_reducible refine Todo.to ?_); (repeat (first | (simp only [↓rP, rT, rU, eI, eU, eB, eS, eBs, eL, eA, buildCells, sepsD, sepB, hdl, dvalX, DOp.kind, dval, frameFrom, dBin, dInt, dStr, dBeq, dUn, dLoad, cellsAt, retV, retL, DR.val, fzT, fzVs, fzV, fz1, DV.immB, IntKind.bits, dCallP, viewVs, viewV, view1, capVL, capV, viewL, noMemV, noMem, elemsOf, dAppend, dAppz, dStore, DV.one, alive, freezeAt, fzLL, fzL, bRow, bU, cellsOf, setFrom, DV.isU, lenMax, Nat.reduceEqDiff, Nat.reduceAdd, ↓reduceIte, reduceCtorEq, Nat.reduceSub, Int.reduceToNat, Int.reducePow, Nat.reducePow, Int.reduceLE, Int.reduceLT, Nat.reduceLeDiff, Nat.reduceLT, Int.reduceBEq, Int.reduceBNe, Int.reduceEq, Int.reduceNe, Int.reduceAdd, Int.reduceSub, Int.reduceMul, Int.reduceNeg, Int.reduceTDiv, Int.reduceTMod, Int.reduceMod, Int.reduceDiv, Nat.reduceMul, forall_const, implies_true, d_norialaw36_FaceThirds, s_live_at, s_Few_at, s_EnumsF_at, s_SameI_at, eEns, eIls, eImg, eIns1, ePrt, ePrts, eRImg, eRows, eSs, eThree, eTy, eY, sls_len, ils_len, ils_rowsT, sls_rowsT, sls_tk0, e1, n0, n1, n2, n3 , hcond]) | (simp (disch := omega) only [i64_id, u64_id, u8_id, getD_map'])))) | ((with_reducible refine And.intro ?_ ?_); · first | trivial | omega | (simp; done) | (simp; omega)) | ((first | ((with_reducible refine dwp_condI (t := ?_) ?_ (fun hc => ?_) (fun hc => ?_)); rotate_left; · rfl) | ((with_reducible refine dops_guardI (t := ?_) ?_ (fun hc => ?_) (fun hc => ?_)); rotate_left; · rfl)) <;> (have hn := hc; have hcond := hc) <;> (try simp only [decide_eq_true_eq, decide_eq_false_iff_not, beq_iff_eq, bne_iff_ne, ne_eq, Bool.and_eq_true, Bool.or_eq_true, Bool.not_eq_true, Bool.not_eq_false, beq_eq_false_iff_ne, bne_eq_false_iff_eq, Bool.not_eq_true', Bool.not_eq_false', Int.ofNat_lt, Int.ofNat_le, Bool.or_eq_false_iff, Bool.and_eq_false_imp, Decidable.not_not, gt_iff_lt, ge_iff_le] at hn) <;> (try (exfalso; omega)) <;> (refine Todo.of ?_)) | (((with_reducible refine dwp_condA ?_ ?_ ?_); · rfl) <;> (refine Todo.of ?_)))) <;> (try (first | (with_reducible rfl) | exact Nat.le_refl _ | assumption))
    all_goals exact ⟨1, by simp only [cut_some, cut_none, List.map_cons, List.map_nil, get_cons, Nk.get_nil, Nat.reduceEqDiff, ↓reduceIte, Nat.succ_ne_self, DV.cut, DV.inB, DObj.cut, List.take_nil, List.take_zero, if_true, Nat.zero_ne_one, Nat.one_ne_zero, DV.inBL, Bool.and_true, Bool.true_and, reduceCtorEq, Nat.zero_lt_one, decide_true, decide_false, Nat.reduceLT, List.take_succ_cons, Int.natCast_add, Int.natCast_one, List.length_append, List.length_cons, List.length_nil, Nat.zero_add] <;> rfl, ⟨by omega, fun _ => by assumption, by omega, by omega⟩, by omega⟩
  | 1, _ =>
    (have hcond := Bool.and_self; refine Todo.of ?_); (repeat' (first | ((with_reducible refine Todo.to ?_); (repeat (first | (simp only [↓rP, rT, rU, eI, eU, eB, eS, eBs, eL, eA, buildCells, sepsD, sepB, hdl, dvalX, DOp.kind, dval, frameFrom, dBin, dInt, dStr, dBeq, dUn, dLoad, cellsAt, retV, retL, DR.val, fzT, fzVs, fzV, fz1, DV.immB, IntKind.bits, dCallP, viewVs, viewV, view1, capVL, capV, viewL, noMemV, noMem, elemsOf, dAppend, dAppz, dStore, DV.one, alive, freezeAt, fzLL, fzL, bRow, bU, cellsOf, setFrom, DV.isU, lenMax, Nat.reduceEqDiff, Nat.reduceAdd, ↓reduceIte, reduceCtorEq, Nat.reduceSub, Int.reduceToNat, Int.reducePow, Nat.reducePow, Int.reduceLE, Int.reduceLT, Nat.reduceLeDiff, Nat.reduceLT, Int.reduceBEq, Int.reduceBNe, Int.reduceEq, Int.reduceNe, Int.reduceAdd, Int.reduceSub, Int.reduceMul, Int.reduceNeg, Int.reduceTDiv, Int.reduceTMod, Int.reduceMod, Int.reduceDiv, Nat.reduceMul, forall_const, implies_true, d_norialaw36_FaceThirds, s_live_at, s_Few_at, s_EnumsF_at, s_SameI_at, eEns, eIls, eImg, eIns1, ePrt, ePrts, eRImg, eRows, eSs, eThree, eTy, eY, sls_len, ils_len, ils_rowsT, sls_rowsT, sls_tk0, e2, n0, n1, n2, n3 , hcond]) | (simp (disch := omega) only [i64_id, u64_id, u8_id, getD_map'])))) | ((with_reducible refine And.intro ?_ ?_); · first | trivial | omega | (simp; done) | (simp; omega)) | ((first | ((with_reducible refine dwp_condI (t := ?_) ?_ (fun hc => ?_) (fun hc => ?_)); rotate_left; · rfl) | ((with_reducible refine dops_guardI (t := ?_) ?_ (fun hc => ?_) (fun hc => ?_)); rotate_left; · rfl)) <;> (have hn := hc; have hcond := hc) <;> (try simp only [decide_eq_true_eq, decide_eq_false_iff_not, beq_iff_eq, bne_iff_ne, ne_eq, Bool.and_eq_true, Bool.or_eq_true, Bool.not_eq_true, Bool.not_eq_false, beq_eq_false_iff_ne, bne_eq_false_iff_eq, Bool.not_eq_true', Bool.not_eq_false', Int.ofNat_lt, Int.ofNat_le, Bool.or_eq_false_iff, Bool.and_eq_false_imp, Decidable.not_not, gt_iff_lt, ge_iff_le] at hn) <;> (try (exfalso; omega)) <;> (refine Todo.of ?_)) | (((with_reducible refine dwp_condA ?_ ?_ ?_); · rfl) <;> (refine Todo.of ?_)))) <;> (try (first | (with_reducible rfl) | exact Nat.le_refl _ | assumption))
    all_goals exact ⟨2, by simp only [cut_some, cut_none, List.map_cons, List.map_nil, get_cons, Nk.get_nil, Nat.reduceEqDiff, ↓reduceIte, Nat.succ_ne_self, DV.cut, DV.inB, DObj.cut, List.take_nil, List.take_zero, if_true, Nat.zero_ne_one, Nat.one_ne_zero, DV.inBL, Bool.and_true, Bool.true_and, reduceCtorEq, Nat.zero_lt_one, decide_true, decide_false, Nat.reduceLT, List.take_succ_cons, Int.natCast_add, Int.natCast_one, List.length_append, List.length_cons, List.length_nil, Nat.zero_add] <;> rfl, ⟨by omega, fun _ => k1 (by omega), fun _ => by assumption, by omega⟩, by omega⟩
  | 2, _ =>
    (have hcond := Bool.and_self; refine Todo.of ?_); (repeat' (first | ((with_reducible refine Todo.to ?_); (repeat (first | (simp only [↓rP, rT, rU, eI, eU, eB, eS, eBs, eL, eA, buildCells, sepsD, sepB, hdl, dvalX, DOp.kind, dval, frameFrom, dBin, dInt, dStr, dBeq, dUn, dLoad, cellsAt, retV, retL, DR.val, fzT, fzVs, fzV, fz1, DV.immB, IntKind.bits, dCallP, viewVs, viewV, view1, capVL, capV, viewL, noMemV, noMem, elemsOf, dAppend, dAppz, dStore, DV.one, alive, freezeAt, fzLL, fzL, bRow, bU, cellsOf, setFrom, DV.isU, lenMax, Nat.reduceEqDiff, Nat.reduceAdd, ↓reduceIte, reduceCtorEq, Nat.reduceSub, Int.reduceToNat, Int.reducePow, Nat.reducePow, Int.reduceLE, Int.reduceLT, Nat.reduceLeDiff, Nat.reduceLT, Int.reduceBEq, Int.reduceBNe, Int.reduceEq, Int.reduceNe, Int.reduceAdd, Int.reduceSub, Int.reduceMul, Int.reduceNeg, Int.reduceTDiv, Int.reduceTMod, Int.reduceMod, Int.reduceDiv, Nat.reduceMul, forall_const, implies_true, d_norialaw36_FaceThirds, s_live_at, s_Few_at, s_EnumsF_at, s_SameI_at, eEns, eIls, eImg, eIns1, ePrt, ePrts, eRImg, eRows, eSs, eThree, eTy, eY, sls_len, ils_len, ils_rowsT, sls_rowsT, sls_tk0, e3, n0, n1, n2, n3 , hcond]) | (simp (disch := omega) only [i64_id, u64_id, u8_id, getD_map'])))) | ((with_reducible refine And.intro ?_ ?_); · first | trivial | omega | (simp; done) | (simp; omega)) | ((first | ((with_reducible refine dwp_condI (t := ?_) ?_ (fun hc => ?_) (fun hc => ?_)); rotate_left; · rfl) | ((with_reducible refine dops_guardI (t := ?_) ?_ (fun hc => ?_) (fun hc => ?_)); rotate_left; · rfl)) <;> (have hn := hc; have hcond := hc) <;> (try simp only [decide_eq_true_eq, decide_eq_false_iff_not, beq_iff_eq, bne_iff_ne, ne_eq, Bool.and_eq_true, Bool.or_eq_true, Bool.not_eq_true, Bool.not_eq_false, beq_eq_false_iff_ne, bne_eq_false_iff_eq, Bool.not_eq_true', Bool.not_eq_false', Int.ofNat_lt, Int.ofNat_le, Bool.or_eq_false_iff, Bool.and_eq_false_imp, Decidable.not_not, gt_iff_lt, ge_iff_le] at hn) <;> (try (exfalso; omega)) <;> (refine Todo.of ?_)) | (((with_reducible refine dwp_condA ?_ ?_ ?_); · rfl) <;> (refine Todo.of ?_)))) <;> (try (first | (with_reducible rfl) | exact Nat.le_refl _ | assumption))
    all_goals exact ⟨3, by simp only [cut_some, cut_none, List.map_cons, List.map_nil, get_cons, Nk.get_nil, Nat.reduceEqDiff, ↓reduceIte, Nat.succ_ne_self, DV.cut, DV.inB, DObj.cut, List.take_nil, List.take_zero, if_true, Nat.zero_ne_one, Nat.one_ne_zero, DV.inBL, Bool.and_true, Bool.true_and, reduceCtorEq, Nat.zero_lt_one, decide_true, decide_false, Nat.reduceLT, List.take_succ_cons, Int.natCast_add, Int.natCast_one, List.length_append, List.length_cons, List.length_nil, Nat.zero_add] <;> rfl, ⟨by omega, fun _ => k1 (by omega), fun _ => k2 (by omega), fun _ => by assumption⟩, by omega⟩
  | 3, _ =>
    have o1 := (few_okImg (k1 (by omega))).1
    have o2 := (few_okImg (k2 (by omega))).1
    have o3 := (few_okImg (k3 (by omega))).1
    have f1 := s_SameI_at a b
    have f2 := s_SameI_at b c
    have f3 := s_SameI_at a c
    have f4 := s_SameI_at b a
    rw [eq_true (show okImg a ∧ okImg b from ⟨o1, o2⟩)] at f1
    rw [eq_true (show okImg b ∧ okImg c from ⟨o2, o3⟩)] at f2
    rw [eq_true (show okImg a ∧ okImg c from ⟨o1, o3⟩)] at f3
    rw [eq_true (show okImg b ∧ okImg a from ⟨o2, o1⟩), sameF_symm b a] at f4
    have ht := @sameF_trans a b c
    simp only [cImg] at f1 f2 f3 f4
    (have hcond := Bool.and_self; refine Todo.of ?_); (repeat' (first | ((with_reducible refine Todo.to ?_); (repeat (first | (simp only [↓rP, rT, rU, eI, eU, eB, eS, eBs, eL, eA, buildCells, sepsD, sepB, hdl, dvalX, DOp.kind, dval, frameFrom, dBin, dInt, dStr, dBeq, dUn, dLoad, cellsAt, retV, retL, DR.val, fzT, fzVs, fzV, fz1, DV.immB, IntKind.bits, dCallP, viewVs, viewV, view1, capVL, capV, viewL, noMemV, noMem, elemsOf, dAppend, dAppz, dStore, DV.one, alive, freezeAt, fzLL, fzL, bRow, bU, cellsOf, setFrom, DV.isU, lenMax, Nat.reduceEqDiff, Nat.reduceAdd, ↓reduceIte, reduceCtorEq, Nat.reduceSub, Int.reduceToNat, Int.reducePow, Nat.reducePow, Int.reduceLE, Int.reduceLT, Nat.reduceLeDiff, Nat.reduceLT, Int.reduceBEq, Int.reduceBNe, Int.reduceEq, Int.reduceNe, Int.reduceAdd, Int.reduceSub, Int.reduceMul, Int.reduceNeg, Int.reduceTDiv, Int.reduceTMod, Int.reduceMod, Int.reduceDiv, Nat.reduceMul, forall_const, implies_true, d_norialaw36_FaceThirds, s_live_at, s_Few_at, s_EnumsF_at, s_SameI_at, eEns, eIls, eImg, eIns1, ePrt, ePrts, eRImg, eRows, eSs, eThree, eTy, eY, sls_len, ils_len, ils_rowsT, sls_rowsT, sls_tk0, f1, f2, f3, f4, n0, n1, n2, n3 , hcond]) | (simp (disch := omega) only [i64_id, u64_id, u8_id, getD_map'])))) | ((with_reducible refine And.intro ?_ ?_); · first | trivial | omega | (simp; done) | (simp; omega)) | ((first | ((with_reducible refine dwp_condI (t := ?_) ?_ (fun hc => ?_) (fun hc => ?_)); rotate_left; · rfl) | ((with_reducible refine dops_guardI (t := ?_) ?_ (fun hc => ?_) (fun hc => ?_)); rotate_left; · rfl)) <;> (have hn := hc; have hcond := hc) <;> (try simp only [decide_eq_true_eq, decide_eq_false_iff_not, beq_iff_eq, bne_iff_ne, ne_eq, Bool.and_eq_true, Bool.or_eq_true, Bool.not_eq_true, Bool.not_eq_false, beq_eq_false_iff_ne, bne_eq_false_iff_eq, Bool.not_eq_true', Bool.not_eq_false', Int.ofNat_lt, Int.ofNat_le, Bool.or_eq_false_iff, Bool.and_eq_false_imp, Decidable.not_not, gt_iff_lt, ge_iff_le] at hn) <;> (try (exfalso; omega)) <;> (refine Todo.of ?_)) | (((with_reducible refine dwp_condA ?_ ?_ ?_); · rfl) <;> (refine Todo.of ?_)))) <;> (try (first | (with_reducible rfl) | exact Nat.le_refl _ | assumption))
    all_goals grind
end Go.Proofs.Ytiidllpiipcdjaa
