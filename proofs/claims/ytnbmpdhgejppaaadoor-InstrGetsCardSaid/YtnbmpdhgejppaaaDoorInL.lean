/- An instruction that is read. -/
import Derived.Test.YtnbmpdhgejppaaaDoorInH
import Derived.Test.YtnbmpdhgejppaaaDoorRdLive
import Derived.Test.YtnbmpdhgejppaaaDoorOcPl
set_option linter.all false
set_option maxRecDepth 20000
namespace Go.Proofs.YtnbmpdhgejppaaaDoor
open Go.Nk

/-! One object of a heap, and some behind. -/
section
variable {hp t : List DObj} {m : Nat} {o o' a b c : DObj}
theorem one_b3 : (one hp m o ++ (a :: b :: c :: o' :: t))[hp.length + 3]? = some o' := by
  rw [List.getElem?_append_right (by simp [one])]; simp [one]
theorem one_setb2 : (one hp m o ++ (a :: b :: c :: t)).set (hp.length + 2) o' = one hp m o ++ (a :: b :: o' :: t) := by
  rw [List.set_append_right _ _ (by simp [one])]; simp [one]
theorem one_setb3 {d : DObj} : (one hp m o ++ (a :: b :: c :: d :: t)).set (hp.length + 3) o' = one hp m o ++ (a :: b :: c :: o' :: t) := by
  rw [List.set_append_right _ _ (by simp [one])]; simp [one]
end
theorem oP_cut (r : RS) (k : Nat) : (oP r).cut k = oP r := by
  rcases r with _ | ⟨l, a⟩ <;> rfl
theorem oR_cut (r : QS) (k : Nat) : (oR r).cut k = oR r := by
  obtain ⟨l, _ | a⟩ := r <;> rfl
/-! The program's. -/
def oneV (r : RS) : In4 × RS :=
  let f := fmI (numV r 1)
  let r1 := nextS r (szN 1)
  let r2 := if f.w then nextS r1 (szN 2) else r1
  let r3 := if f.s then nextS r2 (szN 1) else r2
  let r4 := if f.b then nextS r3 (szN 1) else r3
  let r5 := if f.n then intS r4 else r4
  (⟨numV r 1, if f.s then numV r2 1 else if f.w then numV r1 2 else 0, if f.b then numV r3 1 else 0, if f.n then intV r4 else 0⟩, r5)
def rRX (x : Nat × RS) (a : List DV) (hp : List DObj) : Prop := a = [.agg [.ptr x.1 1 0 0]] ∧ hp[x.1]? = some (oP x.2)
theorem rRX_u : ∀ x y a hp, rRX x a hp → rRX y a hp → x = y := by
  rintro ⟨n, r⟩ ⟨n', r'⟩ a hp ⟨h1, h2⟩ ⟨h3, h4⟩
  subst h1
  simp only [List.cons.injEq, DV.agg.injEq, DV.ptr.injEq, and_true] at h3
  subst h3
  have := h2.symm.trans h4
  simp only [Option.some.injEq] at this
  rw [oP_inj _ _ this]
noncomputable def s_iInstr : List DV → List DObj → Res := specG rRX (fun x => (okP x.2, .agg (cIn (oneV x.2).1))) (fun x hp => one hp x.1 (oP (oneV x.2).2))
theorem s_iInstr_at {hp : List DObj} {n : Nat} {r : RS} (h : hp[n]? = some (oP r)) : s_iInstr [.agg [.ptr n 1 0 0]] hp = ⟨okP r, .agg (cIn (oneV r).1), one hp n (oP (oneV r).2)⟩ := specG_at (x := (n, r)) rRX_u ⟨rfl, h⟩
theorem one_num {hp : List DObj} {n : Nat} (hn : n < hp.length) {r : RS} (h : okP r) (k : Int) (t : List DObj) : s_Num [.ptr n 1 0 0, .int .i64 k] (one hp n (oP r) ++ t) = ⟨True, .int .i64 (numV r k), one hp n (oP (nextS r (szN k))) ++ t⟩ := by
  rw [s_Num_at (one_get hn), eq_true h, one_set hn]
theorem one_int {hp : List DObj} {n : Nat} (hn : n < hp.length) {r : RS} (h : okP r) (t : List DObj) : s_rInt [.ptr n 1 0 0] (one hp n (oP r) ++ t) = ⟨True, .int .i64 (intV r), one hp n (oP (intS r)) ++ t⟩ := by
  rw [s_rInt_at (one_get hn), eq_true h, one_set hn]
set_option maxHeartbeats 4000000 in
theorem ok_instr_in_instr : OkH Tryd.prog 35 s_iInstr := by
  refine OkH.mkG (ps := [(18, s_of)]) (hs := [(53, s_Num), (54, s_rInt)]) ⟨ok_instr_of, trivial⟩ ⟨ok_reader_Num, ok_reader_Int, trivial⟩ m_instr_in_instr (fun x a hp h => by rw [h.1]; rfl) (fun x a hp h h1 => ?_)
  obtain ⟨n, r⟩ := x
  obtain ⟨rfl, hh⟩ := h
  have h1 : okP r := h1
  simp only at hh ⊢
  have hn := (List.getElem?_eq_some_iff.1 hh).1
  have es : (⟨frameFrom 0 [.agg [.ptr n 1 0 0]], hp⟩ : DS) = ⟨frameFrom 0 [.agg [.ptr n 1 0 0]], one hp n (oP r) ++ []⟩ := by rw [List.append_nil, one_is hh]
  rw [es]
  have q0 := one_num hn h1 1
  have hk1 := nextS_ok (szN 1) h1
  generalize ho : oneV r = O
  unfold oneV at ho
  dsimp only at ho
  generalize nextS r (szN 1) = r1 at q0 hk1 ho
  generalize numV r 1 = op at q0 ho
  have ef := s_of_at op
  have q1 := one_num hn hk1 2
  have q2 := one_num hn hk1 1
  have hk2 := nextS_ok (szN 2) hk1
  generalize nextS r1 (szN 2) = r2 at q1 hk2 ho
  have q3 := one_num hn hk2 1
  have q4 := one_int hn hk2
  
  rcases opCases op with h | rfl | rfl | rfl | rfl | rfl | rfl | rfl | rfl | rfl | rfl
  · simp only [fmI_no h, fmV, Bool.false_eq_true, ↓reduceIte] at ef ho
    subst ho
    (have hcondQ := Bool.and_self; refine Todo.of ?_); (repeat' (first | ((with_reducible refine Todo.to ?_); (repeat (first | (simp only [↓rP, rT, rU, eI, eU, eB, eS, eBs, eL, eA, buildCells, sepsD, sepB, hdl, dvalX, DOp.kind, dval, frameFrom, dBin, dInt, dStr, dBeq, dUn, dLoad, cellsAt, retV, retL, DR.val, fzT, fzVs, fzV, fz1, DV.immB, IntKind.bits, dCallP, viewVs, viewV, view1, capVL, capV, viewL, noMemV, noMem, elemsOf, dAppend, dAppz, dStore, DV.one, alive, freezeAt, fzLL, fzL, bRow, bU, cellsOf, setFrom, DV.isU, lenMax, lenCap, Nat.reduceEqDiff, Nat.reduceAdd, ↓reduceIte, reduceCtorEq, Nat.reduceSub, Int.reduceToNat, Int.reducePow, Nat.reducePow, Int.reduceLE, Int.reduceLT, Nat.reduceLeDiff, Nat.reduceLT, Int.reduceBEq, Int.reduceBNe, Int.reduceEq, Int.reduceNe, Int.reduceAdd, Int.reduceSub, Int.reduceMul, Int.reduceNeg, Int.reduceTDiv, Int.reduceTMod, Int.reduceMod, Int.reduceDiv, Nat.reduceMul, forall_const, implies_true, d_instr_in_instr, s_of_at, eIls, eIn4, eIn4s, eRows, eSs, eY, sls_len, ils_len, ils_rowsT, sls_rowsT, sls_tk0, ils_tk0, in_rowsT, in_tk0, ef, q0, one_len, one_lenA, one_b, one_b1, one_b2, one_b3, one_setb, one_setb1, one_setb2, one_setb3, List.append_assoc, endC_normal, endC_ret, Nat.add_zero , hcondQ]) | (simp (disch := omega) only [i64_id, u64_id, u8_id, getD_map'])))) | ((with_reducible refine And.intro ?_ ?_); · first | trivial | omega | (simp; done) | (simp; omega)) | ((first | ((with_reducible refine dwp_condI (t := ?_) ?_ (fun hcQ => ?_) (fun hcQ => ?_)); rotate_left; · rfl) | ((with_reducible refine dops_guardI (t := ?_) ?_ (fun hcQ => ?_) (fun hcQ => ?_)); rotate_left; · rfl)) <;> (have hn := hcQ; have hcondQ := hcQ) <;> (try simp only [decide_eq_true_eq, decide_eq_false_iff_not, beq_iff_eq, bne_iff_ne, ne_eq, Bool.and_eq_true, Bool.or_eq_true, Bool.not_eq_true, Bool.not_eq_false, beq_eq_false_iff_ne, bne_eq_false_iff_eq, Bool.not_eq_true', Bool.not_eq_false', Int.ofNat_lt, Int.ofNat_le, Bool.or_eq_false_iff, Bool.and_eq_false_imp, Decidable.not_not, gt_iff_lt, ge_iff_le] at hn) <;> (try (exfalso; omega)) <;> (refine Todo.of ?_)) | (((with_reducible refine dwp_condA ?_ ?_ ?_); · rfl) <;> (refine Todo.of ?_)))) <;> (try (first | (with_reducible rfl) | exact Nat.le_refl _ | exact Int.le_refl _ | assumption | omega))
    all_goals exact one_end (oP_cut _ _)
  all_goals simp only [fmV, fmI, ↓reduceIte, Int.reduceEq, Bool.false_eq_true] at ef ho
  all_goals subst ho
  all_goals (have hcondQ := Bool.and_self; refine Todo.of ?_); (repeat' (first | ((with_reducible refine Todo.to ?_); (repeat (first | (simp only [↓rP, rT, rU, eI, eU, eB, eS, eBs, eL, eA, buildCells, sepsD, sepB, hdl, dvalX, DOp.kind, dval, frameFrom, dBin, dInt, dStr, dBeq, dUn, dLoad, cellsAt, retV, retL, DR.val, fzT, fzVs, fzV, fz1, DV.immB, IntKind.bits, dCallP, viewVs, viewV, view1, capVL, capV, viewL, noMemV, noMem, elemsOf, dAppend, dAppz, dStore, DV.one, alive, freezeAt, fzLL, fzL, bRow, bU, cellsOf, setFrom, DV.isU, lenMax, lenCap, Nat.reduceEqDiff, Nat.reduceAdd, ↓reduceIte, reduceCtorEq, Nat.reduceSub, Int.reduceToNat, Int.reducePow, Nat.reducePow, Int.reduceLE, Int.reduceLT, Nat.reduceLeDiff, Nat.reduceLT, Int.reduceBEq, Int.reduceBNe, Int.reduceEq, Int.reduceNe, Int.reduceAdd, Int.reduceSub, Int.reduceMul, Int.reduceNeg, Int.reduceTDiv, Int.reduceTMod, Int.reduceMod, Int.reduceDiv, Nat.reduceMul, forall_const, implies_true, d_instr_in_instr, s_of_at, eIls, eIn4, eIn4s, eRows, eSs, eY, sls_len, ils_len, ils_rowsT, sls_rowsT, sls_tk0, ils_tk0, in_rowsT, in_tk0, ef, q0, q1, q2, q3, q4, one_len, one_lenA, one_b, one_b1, one_b2, one_b3, one_setb, one_setb1, one_setb2, one_setb3, List.append_assoc, endC_normal, endC_ret, Nat.add_zero , hcondQ]) | (simp (disch := omega) only [i64_id, u64_id, u8_id, getD_map'])))) | ((with_reducible refine And.intro ?_ ?_); · first | trivial | omega | (simp; done) | (simp; omega)) | ((first | ((with_reducible refine dwp_condI (t := ?_) ?_ (fun hcQ => ?_) (fun hcQ => ?_)); rotate_left; · rfl) | ((with_reducible refine dops_guardI (t := ?_) ?_ (fun hcQ => ?_) (fun hcQ => ?_)); rotate_left; · rfl)) <;> (have hn := hcQ; have hcondQ := hcQ) <;> (try simp only [decide_eq_true_eq, decide_eq_false_iff_not, beq_iff_eq, bne_iff_ne, ne_eq, Bool.and_eq_true, Bool.or_eq_true, Bool.not_eq_true, Bool.not_eq_false, beq_eq_false_iff_ne, bne_eq_false_iff_eq, Bool.not_eq_true', Bool.not_eq_false', Int.ofNat_lt, Int.ofNat_le, Bool.or_eq_false_iff, Bool.and_eq_false_imp, Decidable.not_not, gt_iff_lt, ge_iff_le] at hn) <;> (try (exfalso; omega)) <;> (refine Todo.of ?_)) | (((with_reducible refine dwp_condA ?_ ?_ ?_); · rfl) <;> (refine Todo.of ?_)))) <;> (try (first | (with_reducible rfl) | exact Nat.le_refl _ | exact Int.le_refl _ | assumption | omega))
  all_goals exact one_end (oP_cut _ _)

/-! The document's. -/
def oneQ (r : QS) : In4 × QS :=
  let f := fmI (qNumV r 1)
  let r1 := qS r (szN 1)
  let r2 := if f.w then qS r1 (szN 2) else r1
  let r3 := if f.s then qS r2 (szN 1) else r2
  let r4 := if f.b then qS r3 (szN 1) else r3
  let r5 := if f.n then qIntS r4 else r4
  (⟨qNumV r 1, if f.s then qNumV r2 1 else if f.w then qNumV r1 2 else 0, if f.b then qNumV r3 1 else 0, if f.n then qIntV r4 else 0⟩, r5)
theorem qIntS_fst (r : QS) : (qIntS r).1 = r.1 := by
  unfold qIntS
  split
  · split <;> rfl
  · rfl
theorem oneV_to (l : List UInt8) (s : Option Nat) : (oneV (toP l s)).1 = (oneQ (l, s)).1 ∧ (oneV (toP l s)).2 = toP l (oneQ (l, s)).2.2 ∧ (oneQ (l, s)).2.1 = l := by
  have hq : ∀ (r : QS) (k : Int), qS r k = (r.1, (qS r k).2) := fun r k => rfl
  have hi : ∀ r : QS, qIntS r = (r.1, (qIntS r).2) := fun r => by rw [← qIntS_fst r]
  unfold oneV oneQ
  simp only [numV_to, nextS_to]
  rw [hq (l, s) (szN 1)]
  simp only
  generalize (qS (l, s) (szN 1)).2 = s1
  generalize fmI (qNumV (l, s) 1) = f
  obtain ⟨nm, fw, fs, fb, fn, fo⟩ := f
  cases fw <;> cases fs <;> cases fb <;> cases fn <;> simp only [Bool.false_eq_true, ↓reduceIte, numV_to, nextS_to, intV_to, intS_to]
  all_goals (refine ⟨?_, ?_, ?_⟩ <;> first | rfl | trivial | exact qIntS_fst _)
def rQX (x : Nat × QS) (a : List DV) (hp : List DObj) : Prop := a = [.ptr x.1 1 0 0] ∧ hp[x.1]? = some (oR x.2)
theorem rQX_u : ∀ x y a hp, rQX x a hp → rQX y a hp → x = y := by
  rintro ⟨n, r⟩ ⟨n', r'⟩ a hp ⟨h1, h2⟩ ⟨h3, h4⟩
  subst h1
  simp only [List.cons.injEq, DV.ptr.injEq, and_true] at h3
  subst h3
  have := h2.symm.trans h4
  simp only [Option.some.injEq] at this
  rw [oR_inj _ _ this]
noncomputable def s_one : List DV → List DObj → Res := specG rQX (fun x => (okQ x.2, .agg (cIn (oneQ x.2).1))) (fun x hp => one hp x.1 (oR (oneQ x.2).2))
theorem s_one_at {hp : List DObj} {n : Nat} {r : QS} (h : hp[n]? = some (oR r)) : s_one [.ptr n 1 0 0] hp = ⟨okQ r, .agg (cIn (oneQ r).1), one hp n (oR (oneQ r).2)⟩ := specG_at (x := (n, r)) rQX_u ⟨rfl, h⟩
theorem oneq_num {hp : List DObj} {n : Nat} (hn : n < hp.length) {r : QS} (h : okQ r) (k : Int) (t : List DObj) : s_qNum [.ptr n 1 0 0, .int .i64 k] (one hp n (oR r) ++ t) = ⟨True, .int .i64 (qNumV r k), one hp n (oR (qS r (szN k))) ++ t⟩ := by
  rw [s_qNum_at (one_get hn), eq_true h, one_set hn]
theorem oneq_int {hp : List DObj} {n : Nat} (hn : n < hp.length) {r : QS} (h : okQ r) (t : List DObj) : s_qInt [.ptr n 1 0 0] (one hp n (oR r) ++ t) = ⟨True, .int .i64 (qIntV r), one hp n (oR (qIntS r)) ++ t⟩ := by
  rw [s_qInt_at (one_get hn), eq_true h, one_set hn]
set_option maxHeartbeats 4000000 in
theorem ok_noriaref28_one : OkH Tryd.prog 39 s_one := by
  refine OkH.mkG (ps := []) (hs := [(55, s_qNum), (56, s_qInt)]) trivial ⟨ok_ref_rNum, ok_ref_rInt, trivial⟩ m_noriaref28_one (fun x a hp h => by rw [h.1]; rfl) (fun x a hp h h1 => ?_)
  obtain ⟨n, r⟩ := x
  obtain ⟨rfl, hh⟩ := h
  have h1 : okQ r := h1
  simp only at hh ⊢
  have hn := (List.getElem?_eq_some_iff.1 hh).1
  have es : (⟨frameFrom 0 [.ptr n 1 0 0], hp⟩ : DS) = ⟨frameFrom 0 [.ptr n 1 0 0], one hp n (oR r) ++ []⟩ := by rw [List.append_nil, one_is hh]
  rw [es]
  have q0 := oneq_num hn h1 1
  have hk1 := qS_ok (szN 1) h1
  generalize ho : oneQ r = O
  unfold oneQ at ho
  dsimp only at ho
  generalize qS r (szN 1) = r1 at q0 hk1 ho
  generalize qNumV r 1 = op at q0 ho
  have q1 := oneq_num hn hk1 2
  have q2 := oneq_num hn hk1 1
  have hk2 := qS_ok (szN 2) hk1
  generalize qS r1 (szN 2) = r2 at q1 hk2 ho
  have q3 := oneq_num hn hk2 1
  have q4 := oneq_int hn hk2
  
  rcases opCases op with h | rfl | rfl | rfl | rfl | rfl | rfl | rfl | rfl | rfl | rfl
  · simp only [fmI_no h, Bool.false_eq_true, ↓reduceIte] at ho
    subst ho
    (have hcondQ := Bool.and_self; refine Todo.of ?_); (repeat' (first | ((with_reducible refine Todo.to ?_); (repeat (first | (simp only [↓rP, rT, rU, eI, eU, eB, eS, eBs, eL, eA, buildCells, sepsD, sepB, hdl, dvalX, DOp.kind, dval, frameFrom, dBin, dInt, dStr, dBeq, dUn, dLoad, cellsAt, retV, retL, DR.val, fzT, fzVs, fzV, fz1, DV.immB, IntKind.bits, dCallP, viewVs, viewV, view1, capVL, capV, viewL, noMemV, noMem, elemsOf, dAppend, dAppz, dStore, DV.one, alive, freezeAt, fzLL, fzL, bRow, bU, cellsOf, setFrom, DV.isU, lenMax, lenCap, Nat.reduceEqDiff, Nat.reduceAdd, ↓reduceIte, reduceCtorEq, Nat.reduceSub, Int.reduceToNat, Int.reducePow, Nat.reducePow, Int.reduceLE, Int.reduceLT, Nat.reduceLeDiff, Nat.reduceLT, Int.reduceBEq, Int.reduceBNe, Int.reduceEq, Int.reduceNe, Int.reduceAdd, Int.reduceSub, Int.reduceMul, Int.reduceNeg, Int.reduceTDiv, Int.reduceTMod, Int.reduceMod, Int.reduceDiv, Nat.reduceMul, forall_const, implies_true, d_noriaref28_one, eIls, eIn4, eIn4s, eRows, eSs, eY, sls_len, ils_len, ils_rowsT, sls_rowsT, sls_tk0, ils_tk0, in_rowsT, in_tk0, h.n1, h.n2, h.n3, h.n4, h.n5, h.n6, h.n7, h.n8, h.n9, h.n10, q0, one_len, one_lenA, one_b, one_b1, one_b2, one_b3, one_setb, one_setb1, one_setb2, one_setb3, List.append_assoc, endC_normal, endC_ret, Nat.add_zero , hcondQ]) | (simp (disch := omega) only [i64_id, u64_id, u8_id, getD_map'])))) | ((with_reducible refine And.intro ?_ ?_); · first | trivial | omega | (simp; done) | (simp; omega)) | ((first | ((with_reducible refine dwp_condI (t := ?_) ?_ (fun hcQ => ?_) (fun hcQ => ?_)); rotate_left; · rfl) | ((with_reducible refine dops_guardI (t := ?_) ?_ (fun hcQ => ?_) (fun hcQ => ?_)); rotate_left; · rfl)) <;> (have hn := hcQ; have hcondQ := hcQ) <;> (try simp only [decide_eq_true_eq, decide_eq_false_iff_not, beq_iff_eq, bne_iff_ne, ne_eq, Bool.and_eq_true, Bool.or_eq_true, Bool.not_eq_true, Bool.not_eq_false, beq_eq_false_iff_ne, bne_eq_false_iff_eq, Bool.not_eq_true', Bool.not_eq_false', Int.ofNat_lt, Int.ofNat_le, Bool.or_eq_false_iff, Bool.and_eq_false_imp, Decidable.not_not, gt_iff_lt, ge_iff_le] at hn) <;> (try (exfalso; omega)) <;> (refine Todo.of ?_)) | (((with_reducible refine dwp_condA ?_ ?_ ?_); · rfl) <;> (refine Todo.of ?_)))) <;> (try (first | (with_reducible rfl) | exact Nat.le_refl _ | exact Int.le_refl _ | assumption | omega))
    all_goals exact one_end (oR_cut _ _)
  all_goals simp only [fmI, ↓reduceIte, Int.reduceEq, Bool.false_eq_true] at ho
  all_goals subst ho
  all_goals (have hcondQ := Bool.and_self; refine Todo.of ?_); (repeat' (first | ((with_reducible refine Todo.to ?_); (repeat (first | (simp only [↓rP, rT, rU, eI, eU, eB, eS, eBs, eL, eA, buildCells, sepsD, sepB, hdl, dvalX, DOp.kind, dval, frameFrom, dBin, dInt, dStr, dBeq, dUn, dLoad, cellsAt, retV, retL, DR.val, fzT, fzVs, fzV, fz1, DV.immB, IntKind.bits, dCallP, viewVs, viewV, view1, capVL, capV, viewL, noMemV, noMem, elemsOf, dAppend, dAppz, dStore, DV.one, alive, freezeAt, fzLL, fzL, bRow, bU, cellsOf, setFrom, DV.isU, lenMax, lenCap, Nat.reduceEqDiff, Nat.reduceAdd, ↓reduceIte, reduceCtorEq, Nat.reduceSub, Int.reduceToNat, Int.reducePow, Nat.reducePow, Int.reduceLE, Int.reduceLT, Nat.reduceLeDiff, Nat.reduceLT, Int.reduceBEq, Int.reduceBNe, Int.reduceEq, Int.reduceNe, Int.reduceAdd, Int.reduceSub, Int.reduceMul, Int.reduceNeg, Int.reduceTDiv, Int.reduceTMod, Int.reduceMod, Int.reduceDiv, Nat.reduceMul, forall_const, implies_true, d_noriaref28_one, eIls, eIn4, eIn4s, eRows, eSs, eY, sls_len, ils_len, ils_rowsT, sls_rowsT, sls_tk0, ils_tk0, in_rowsT, in_tk0, q0, q1, q2, q3, q4, one_len, one_lenA, one_b, one_b1, one_b2, one_b3, one_setb, one_setb1, one_setb2, one_setb3, List.append_assoc, endC_normal, endC_ret, Nat.add_zero , hcondQ]) | (simp (disch := omega) only [i64_id, u64_id, u8_id, getD_map'])))) | ((with_reducible refine And.intro ?_ ?_); · first | trivial | omega | (simp; done) | (simp; omega)) | ((first | ((with_reducible refine dwp_condI (t := ?_) ?_ (fun hcQ => ?_) (fun hcQ => ?_)); rotate_left; · rfl) | ((with_reducible refine dops_guardI (t := ?_) ?_ (fun hcQ => ?_) (fun hcQ => ?_)); rotate_left; · rfl)) <;> (have hn := hcQ; have hcondQ := hcQ) <;> (try simp only [decide_eq_true_eq, decide_eq_false_iff_not, beq_iff_eq, bne_iff_ne, ne_eq, Bool.and_eq_true, Bool.or_eq_true, Bool.not_eq_true, Bool.not_eq_false, beq_eq_false_iff_ne, bne_eq_false_iff_eq, Bool.not_eq_true', Bool.not_eq_false', Int.ofNat_lt, Int.ofNat_le, Bool.or_eq_false_iff, Bool.and_eq_false_imp, Decidable.not_not, gt_iff_lt, ge_iff_le] at hn) <;> (try (exfalso; omega)) <;> (refine Todo.of ?_)) | (((with_reducible refine dwp_condA ?_ ?_ ?_); · rfl) <;> (refine Todo.of ?_)))) <;> (try (first | (with_reducible rfl) | exact Nat.le_refl _ | exact Int.le_refl _ | assumption | omega))
  all_goals exact one_end (oR_cut _ _)
end Go.Proofs.YtnbmpdhgejppaaaDoor

/- Bytes as instructions: both sides. -/
set_option linter.all false
set_option maxRecDepth 20000
namespace Go.Proofs.YtnbmpdhgejppaaaDoor
open Go.Nk

def getL : Nat → List UInt8 → Option Nat → List In4 → Option (List In4)
  | 0, _, _, _ => none
  | f + 1, l, s, acc => if qMore (l, s) then (if (oneQ (l, s)).2.2.isSome && rightI (oneQ (l, s)).1 && !(acc.length == 6000) then getL f l (oneQ (l, s)).2.2 (acc ++ [(oneQ (l, s)).1]) else none) else some acc
def getI (l : List UInt8) : Option (List In4) := getL (l.length + 1) l (some 0) []
def getV (o : Option (List In4)) : DV := .tup [.sl ((o.getD []).map cIn), .bool o.isSome]
theorem qS_step {l : List UInt8} {s : Option Nat} {k : Int} {a' : Nat} (hk : 0 ≤ k) (h : (qS (l, s) k).2 = some a') : ∃ a, s = some a ∧ a' = a + k.toNat ∧ a' ≤ l.length := by
  cases s with
  | none => cases h
  | some a =>
    have h : (nxt l (some a) k).2 = some a' := h
    simp only [nxt] at h
    split at h
    · injection h with h
      exact ⟨a, rfl, h.symm, by omega⟩
    · cases h
theorem qS_keep {l : List UInt8} {s : Option Nat} {k : Int} {a' : Nat} (h : (qS (l, s) k).2 = some a') : ∃ a, s = some a ∧ a ≤ a' := by
  cases s with
  | none => cases h
  | some a =>
    have h : (nxt l (some a) k).2 = some a' := h
    simp only [nxt] at h
    split at h
    · injection h with h
      exact ⟨a, rfl, by omega⟩
    · cases h
theorem qInt_keep {l : List UInt8} {s : Option Nat} {a' : Nat} (h : (qIntS (l, s)).2 = some a') : ∃ a, s = some a ∧ a ≤ a' := by
  unfold qIntS at h
  split at h
  · split at h
    · cases h
    · obtain ⟨b, hb, h1⟩ := qS_keep h
      obtain ⟨c, hc, h2⟩ := qS_keep hb
      exact ⟨c, hc, by omega⟩
  · cases h
def lq (r r' : QS) : Prop := ∀ a', r'.2 = some a' → ∃ a, r.2 = some a ∧ a ≤ a'
theorem lq_refl (r : QS) : lq r r := fun a h => ⟨a, h, Nat.le_refl _⟩
theorem lq_S {r0 r : QS} {k : Int} (h : lq r0 r) : lq r0 (qS r k) := fun a' h1 => by
  obtain ⟨b, hb, h2⟩ := qS_keep (l := r.1) (s := r.2) h1
  obtain ⟨c, hc, h3⟩ := h b hb
  exact ⟨c, hc, by omega⟩
theorem lq_I {r0 r : QS} (h : lq r0 r) : lq r0 (qIntS r) := fun a' h1 => by
  obtain ⟨b, hb, h2⟩ := qInt_keep (l := r.1) (s := r.2) h1
  obtain ⟨c, hc, h3⟩ := h b hb
  exact ⟨c, hc, by omega⟩
theorem oneQ_in {r : QS} (h : okQ r) : okQ (oneQ r).2 := by
  unfold oneQ
  dsimp only
  have h1 := qS_ok (szN 1) h
  generalize qS r (szN 1) = r1 at h1 ⊢
  have h2 := qS_ok (szN 2) h1
  split <;> split <;> split <;> split <;> first | exact qIntS_ok (qS_ok _ (qS_ok _ h2)) | exact qIntS_ok (qS_ok _ h2) | exact qIntS_ok h2 | exact qS_ok _ (qS_ok _ h2) | exact qS_ok _ h2 | exact h2 | exact qIntS_ok (qS_ok _ (qS_ok _ h1)) | exact qIntS_ok (qS_ok _ h1) | exact qIntS_ok h1 | exact qS_ok _ (qS_ok _ h1) | exact qS_ok _ h1 | exact h1
theorem oneQ_go {l : List UInt8} {a a' : Nat} (h : (oneQ (l, some a)).2.2 = some a') : a < a' := by
  unfold oneQ at h
  dsimp only at h
  have h1 : ∀ b, (qS (l, some a) (szN 1)).2 = some b → a < b := fun b hb => by
    obtain ⟨c, hc, h2, _⟩ := qS_step (by decide) hb
    injection hc with hc
    subst hc
    have : (szN 1).toNat = 1 := by decide
    omega
  have go : ∀ r1 : QS, ∀ r5 : QS, lq r1 r5 → r1 = qS (l, some a) (szN 1) → r5.2 = some a' → a < a' := fun r1 r5 hl e h5 => by
    obtain ⟨b, hb, h2⟩ := hl _ h5
    subst e
    have := h1 b hb
    omega
  refine go _ _ ?_ rfl h
  generalize qS (l, some a) (szN 1) = r1
  split <;> split <;> split <;> split <;> (repeat (first | exact lq_refl _ | refine lq_I ?_ | refine lq_S ?_))
theorem getL_stop {f : Nat} {l : List UInt8} {s : Option Nat} {acc : List In4} (h : qMore (l, s) = false) : getL (f + 1) l s acc = some acc := by unfold getL; rw [h]; rfl
theorem getL_bad {f : Nat} {l : List UInt8} {s : Option Nat} {acc : List In4} (h : qMore (l, s) = true) (h2 : ((oneQ (l, s)).2.2.isSome && rightI (oneQ (l, s)).1 && !(acc.length == 6000)) = false) : getL (f + 1) l s acc = none := by
  unfold getL; rw [if_pos h, if_neg (by rw [h2]; decide)]
theorem getL_go {f : Nat} {l : List UInt8} {s : Option Nat} {acc : List In4} (h : qMore (l, s) = true) (h2 : ((oneQ (l, s)).2.2.isSome && rightI (oneQ (l, s)).1 && !(acc.length == 6000)) = true) : getL (f + 1) l s acc = getL f l (oneQ (l, s)).2.2 (acc ++ [(oneQ (l, s)).1]) := by
  rw [getL, if_pos h, if_pos h2]
def fGetI (l : List UInt8) : Prop × DV := (l.length ≤ 100000, getV (getI l))
structure GI (l : List UInt8) (G : Option (List In4)) (f a : Nat) (acc : List In4) : Prop where
  ha : a ≤ l.length
  hf : l.length - a < f
  hg : getL f l (some a) acc = G
  hl : acc.length ≤ a
theorem in_snoc (l : List In4) (x : In4) : l.map cIn ++ [[.int .i64 x.op, .int .i64 x.a, .int .i64 x.b, .int .i64 x.n]] = (l ++ [x]).map cIn := by simp
theorem s_qFrom_0 (l : List UInt8) : s_qFrom [.sl (bsl l)] [] = ⟨True, .ptr 0 1 0 0, [oR (l, some 0)]⟩ := s_qFrom_at l []
set_option maxHeartbeats 2000000 in
theorem ok_noriaref28_Get : OkP Tryd.prog 16 (specB1 fGetI) := by
  refine OkP.mk (ps := [(9, s_IRight)]) (hs := [(37, s_qFrom), (38, s_qMore), (39, s_one)]) (n := 1) ⟨ok_noriaref28_Right, trivial⟩ ⟨ok_ref_From, ok_ref_More, ok_noriaref28_one, trivial⟩ m_noriaref28_Get
    (specB1_ok fun l h => ?_)
  have h : l.length ≤ 100000 := h
  unfold fGetI
  dsimp only
  generalize hG : getI l = G
  
  (have hcondQ := Bool.and_self; refine Todo.of ?_); (repeat' (first | ((with_reducible refine Todo.to ?_); (repeat (first | (simp only [↓rP, rT, rU, eI, eU, eB, eS, eBs, eL, eA, buildCells, sepsD, sepB, hdl, dvalX, DOp.kind, dval, frameFrom, dBin, dInt, dStr, dBeq, dUn, dLoad, cellsAt, retV, retL, DR.val, fzT, fzVs, fzV, fz1, DV.immB, IntKind.bits, dCallP, viewVs, viewV, view1, capVL, capV, viewL, noMemV, noMem, elemsOf, dAppend, dAppz, dStore, DV.one, alive, freezeAt, fzLL, fzL, bRow, bU, cellsOf, setFrom, DV.isU, lenMax, lenCap, Nat.reduceEqDiff, Nat.reduceAdd, ↓reduceIte, reduceCtorEq, Nat.reduceSub, Int.reduceToNat, Int.reducePow, Nat.reducePow, Int.reduceLE, Int.reduceLT, Nat.reduceLeDiff, Nat.reduceLT, Int.reduceBEq, Int.reduceBNe, Int.reduceEq, Int.reduceNe, Int.reduceAdd, Int.reduceSub, Int.reduceMul, Int.reduceNeg, Int.reduceTDiv, Int.reduceTMod, Int.reduceMod, Int.reduceDiv, Nat.reduceMul, forall_const, implies_true, d_noriaref28_Get, eIls, eIn4, eIn4s, eRows, eSs, eY, sls_len, ils_len, ils_rowsT, sls_rowsT, sls_tk0, ils_tk0, in_rowsT, in_tk0, s_qFrom_0 , hcondQ]) | (simp (disch := omega) only [i64_id, u64_id, u8_id, getD_map'])))) | ((with_reducible refine And.intro ?_ ?_); · first | trivial | omega | (simp; done) | (simp; omega)) | ((first | ((with_reducible refine dwp_condI (t := ?_) ?_ (fun hcQ => ?_) (fun hcQ => ?_)); rotate_left; · rfl) | ((with_reducible refine dops_guardI (t := ?_) ?_ (fun hcQ => ?_) (fun hcQ => ?_)); rotate_left; · rfl)) <;> (have hn := hcQ; have hcondQ := hcQ) <;> (try simp only [decide_eq_true_eq, decide_eq_false_iff_not, beq_iff_eq, bne_iff_ne, ne_eq, Bool.and_eq_true, Bool.or_eq_true, Bool.not_eq_true, Bool.not_eq_false, beq_eq_false_iff_ne, bne_eq_false_iff_eq, Bool.not_eq_true', Bool.not_eq_false', Int.ofNat_lt, Int.ofNat_le, Bool.or_eq_false_iff, Bool.and_eq_false_imp, Decidable.not_not, gt_iff_lt, ge_iff_le] at hn) <;> (try (exfalso; omega)) <;> (refine Todo.of ?_)) | (((with_reducible refine dwp_condA ?_ ?_ ?_); · rfl) <;> (refine Todo.of ?_)))) <;> (try (first | (with_reducible rfl) | exact Nat.le_refl _ | exact Int.le_refl _ | assumption | omega))
  refine dwp_loop (fun x : Nat × Nat × List In4 => ⟨[(4, .ptr 0 1 0 0), (5, .own 1 x.2.2.length 0 x.2.2.length)], [oR (l, some x.2.1), ⟨.imm, 4, x.2.2.map cIn⟩]⟩) (fun x => GI l G x.1 x.2.1 x.2.2) (fun x => l.length - x.2.1) (l.length + 1, 0, []) (Nat.zero_le _) (by simp only [cut_some, cut_none, List.map_cons, List.map_nil, get_cons, Nk.get_nil, Nat.reduceEqDiff, ↓reduceIte, Nat.succ_ne_self, DV.cut, DV.inB, DObj.cut, List.take_nil, List.take_zero, if_true, Nat.zero_ne_one, Nat.one_ne_zero, DV.inBL, Bool.and_true, Bool.true_and, reduceCtorEq, Nat.zero_lt_one, decide_true, decide_false, Nat.reduceLT, List.take_succ_cons, Int.natCast_add, Int.natCast_one, List.length_append, List.length_cons, List.length_nil, Nat.zero_add, oR] <;> rfl) ⟨Nat.zero_le _, by simp only; omega, hG, Nat.zero_le _⟩ fun x hx => ?_
  obtain ⟨f, a, acc⟩ := x
  obtain ⟨ha, hf, hg, hl⟩ := hx
  simp only at ha hf hg hl ⊢
  obtain ⟨f, rfl⟩ : ∃ f', f = f' + 1 := ⟨f - 1, by omega⟩
  have hok : okQ (l, some a) := ⟨ha, by show l.length ≤ 4294967296; omega⟩
  have eM : ∀ t, s_qMore [.ptr 0 1 0 0] (oR (l, some a) :: t) = ⟨True, .bool (qMore (l, some a)), oR (l, some a) :: t⟩ := fun t => s_qMore_at rfl
  cases c : qMore (l, some a)
  · rw [getL_stop c] at hg
    rw [c] at eM
    subst hg
    (have hcondQ := Bool.and_self; refine Todo.of ?_); (repeat' (first | ((with_reducible refine Todo.to ?_); (repeat (first | (simp only [↓rP, rT, rU, eI, eU, eB, eS, eBs, eL, eA, buildCells, sepsD, sepB, hdl, dvalX, DOp.kind, dval, frameFrom, dBin, dInt, dStr, dBeq, dUn, dLoad, cellsAt, retV, retL, DR.val, fzT, fzVs, fzV, fz1, DV.immB, IntKind.bits, dCallP, viewVs, viewV, view1, capVL, capV, viewL, noMemV, noMem, elemsOf, dAppend, dAppz, dStore, DV.one, alive, freezeAt, fzLL, fzL, bRow, bU, cellsOf, setFrom, DV.isU, lenMax, lenCap, Nat.reduceEqDiff, Nat.reduceAdd, ↓reduceIte, reduceCtorEq, Nat.reduceSub, Int.reduceToNat, Int.reducePow, Nat.reducePow, Int.reduceLE, Int.reduceLT, Nat.reduceLeDiff, Nat.reduceLT, Int.reduceBEq, Int.reduceBNe, Int.reduceEq, Int.reduceNe, Int.reduceAdd, Int.reduceSub, Int.reduceMul, Int.reduceNeg, Int.reduceTDiv, Int.reduceTMod, Int.reduceMod, Int.reduceDiv, Nat.reduceMul, forall_const, implies_true, d_noriaref28_Get, eIls, eIn4, eIn4s, eRows, eSs, eY, sls_len, ils_len, ils_rowsT, sls_rowsT, sls_tk0, ils_tk0, in_rowsT, in_tk0, eM , hcondQ]) | (simp (disch := omega) only [i64_id, u64_id, u8_id, getD_map'])))) | ((with_reducible refine And.intro ?_ ?_); · first | trivial | omega | (simp; done) | (simp; omega)) | ((first | ((with_reducible refine dwp_condI (t := ?_) ?_ (fun hcQ => ?_) (fun hcQ => ?_)); rotate_left; · rfl) | ((with_reducible refine dops_guardI (t := ?_) ?_ (fun hcQ => ?_) (fun hcQ => ?_)); rotate_left; · rfl)) <;> (have hn := hcQ; have hcondQ := hcQ) <;> (try simp only [decide_eq_true_eq, decide_eq_false_iff_not, beq_iff_eq, bne_iff_ne, ne_eq, Bool.and_eq_true, Bool.or_eq_true, Bool.not_eq_true, Bool.not_eq_false, beq_eq_false_iff_ne, bne_eq_false_iff_eq, Bool.not_eq_true', Bool.not_eq_false', Int.ofNat_lt, Int.ofNat_le, Bool.or_eq_false_iff, Bool.and_eq_false_imp, Decidable.not_not, gt_iff_lt, ge_iff_le] at hn) <;> (try (exfalso; omega)) <;> (refine Todo.of ?_)) | (((with_reducible refine dwp_condA ?_ ?_ ?_); · rfl) <;> (refine Todo.of ?_)))) <;> (try (first | (with_reducible rfl) | exact Nat.le_refl _ | exact Int.le_refl _ | assumption | omega))
    rfl
  rw [c] at eM
  have eO : ∀ t, s_one [.ptr 0 1 0 0] (oR (l, some a) :: t) = ⟨True, .agg (cIn (oneQ (l, some a)).1), oR (oneQ (l, some a)).2 :: t⟩ := fun t => by
    rw [s_one_at (r := (l, some a)) rfl, eq_true hok]; rfl
  have hin := oneQ_in hok
  have hgo : ∀ a', (oneQ (l, some a)).2.2 = some a' → a < a' := fun a' => oneQ_go
  have hfst : (oneQ (l, some a)).2.1 = l := (oneV_to l (some a)).2.2
  have hbad := getL_bad (f := f) (acc := acc) c
  have hgg := getL_go (f := f) (acc := acc) c
  rw [hg] at hbad hgg
  generalize oneQ (l, some a) = O at eO hin hgo hfst hbad hgg
  obtain ⟨x, l', s'⟩ := O
  simp only at hfst hin hgo hbad hgg eO
  subst hfst
  have er := s_IRight_at x
  have len6 : ((acc.length : Int) == 6000) = (acc.length == 6000) := by
    rw [Bool.eq_iff_iff]; simp; omega
  rcases s' with _ | a'
  · have e := hbad (by simp)
    subst e
    have o5 : oR (l', none) = ⟨.loc, 3, [[.sl (bsl l'), .int .i64 0, .bool true]]⟩ := rfl
    (have hcondQ := Bool.and_self; refine Todo.of ?_); (repeat' (first | ((with_reducible refine Todo.to ?_); (repeat (first | (simp only [↓rP, rT, rU, eI, eU, eB, eS, eBs, eL, eA, buildCells, sepsD, sepB, hdl, dvalX, DOp.kind, dval, frameFrom, dBin, dInt, dStr, dBeq, dUn, dLoad, cellsAt, retV, retL, DR.val, fzT, fzVs, fzV, fz1, DV.immB, IntKind.bits, dCallP, viewVs, viewV, view1, capVL, capV, viewL, noMemV, noMem, elemsOf, dAppend, dAppz, dStore, DV.one, alive, freezeAt, fzLL, fzL, bRow, bU, cellsOf, setFrom, DV.isU, lenMax, lenCap, Nat.reduceEqDiff, Nat.reduceAdd, ↓reduceIte, reduceCtorEq, Nat.reduceSub, Int.reduceToNat, Int.reducePow, Nat.reducePow, Int.reduceLE, Int.reduceLT, Nat.reduceLeDiff, Nat.reduceLT, Int.reduceBEq, Int.reduceBNe, Int.reduceEq, Int.reduceNe, Int.reduceAdd, Int.reduceSub, Int.reduceMul, Int.reduceNeg, Int.reduceTDiv, Int.reduceTMod, Int.reduceMod, Int.reduceDiv, Nat.reduceMul, forall_const, implies_true, d_noriaref28_Get, eIls, eIn4, eIn4s, eRows, eSs, eY, sls_len, ils_len, ils_rowsT, sls_rowsT, sls_tk0, ils_tk0, in_rowsT, in_tk0, eM, eO, o5 , hcondQ]) | (simp (disch := omega) only [i64_id, u64_id, u8_id, getD_map'])))) | ((with_reducible refine And.intro ?_ ?_); · first | trivial | omega | (simp; done) | (simp; omega)) | ((first | ((with_reducible refine dwp_condI (t := ?_) ?_ (fun hcQ => ?_) (fun hcQ => ?_)); rotate_left; · rfl) | ((with_reducible refine dops_guardI (t := ?_) ?_ (fun hcQ => ?_) (fun hcQ => ?_)); rotate_left; · rfl)) <;> (have hn := hcQ; have hcondQ := hcQ) <;> (try simp only [decide_eq_true_eq, decide_eq_false_iff_not, beq_iff_eq, bne_iff_ne, ne_eq, Bool.and_eq_true, Bool.or_eq_true, Bool.not_eq_true, Bool.not_eq_false, beq_eq_false_iff_ne, bne_eq_false_iff_eq, Bool.not_eq_true', Bool.not_eq_false', Int.ofNat_lt, Int.ofNat_le, Bool.or_eq_false_iff, Bool.and_eq_false_imp, Decidable.not_not, gt_iff_lt, ge_iff_le] at hn) <;> (try (exfalso; omega)) <;> (refine Todo.of ?_)) | (((with_reducible refine dwp_condA ?_ ?_ ?_); · rfl) <;> (refine Todo.of ?_)))) <;> (try (first | (with_reducible rfl) | exact Nat.le_refl _ | exact Int.le_refl _ | assumption | omega))
    all_goals rfl
  have h1 := hgo a' rfl
  have h2 : a' ≤ l'.length := hin.1
  have o5 : oR (l', some a') = ⟨.loc, 3, [[.sl (bsl l'), .int .i64 a', .bool false]]⟩ := rfl
  cases r : rightI x
  · have e := hbad (by simp [r])
    subst e
    rw [r] at er
    (have hcondQ := Bool.and_self; refine Todo.of ?_); (repeat' (first | ((with_reducible refine Todo.to ?_); (repeat (first | (simp only [↓rP, rT, rU, eI, eU, eB, eS, eBs, eL, eA, buildCells, sepsD, sepB, hdl, dvalX, DOp.kind, dval, frameFrom, dBin, dInt, dStr, dBeq, dUn, dLoad, cellsAt, retV, retL, DR.val, fzT, fzVs, fzV, fz1, DV.immB, IntKind.bits, dCallP, viewVs, viewV, view1, capVL, capV, viewL, noMemV, noMem, elemsOf, dAppend, dAppz, dStore, DV.one, alive, freezeAt, fzLL, fzL, bRow, bU, cellsOf, setFrom, DV.isU, lenMax, lenCap, Nat.reduceEqDiff, Nat.reduceAdd, ↓reduceIte, reduceCtorEq, Nat.reduceSub, Int.reduceToNat, Int.reducePow, Nat.reducePow, Int.reduceLE, Int.reduceLT, Nat.reduceLeDiff, Nat.reduceLT, Int.reduceBEq, Int.reduceBNe, Int.reduceEq, Int.reduceNe, Int.reduceAdd, Int.reduceSub, Int.reduceMul, Int.reduceNeg, Int.reduceTDiv, Int.reduceTMod, Int.reduceMod, Int.reduceDiv, Nat.reduceMul, forall_const, implies_true, d_noriaref28_Get, eIls, eIn4, eIn4s, eRows, eSs, eY, sls_len, ils_len, ils_rowsT, sls_rowsT, sls_tk0, ils_tk0, in_rowsT, in_tk0, eM, eO, o5, er , hcondQ]) | (simp (disch := omega) only [i64_id, u64_id, u8_id, getD_map'])))) | ((with_reducible refine And.intro ?_ ?_); · first | trivial | omega | (simp; done) | (simp; omega)) | ((first | ((with_reducible refine dwp_condI (t := ?_) ?_ (fun hcQ => ?_) (fun hcQ => ?_)); rotate_left; · rfl) | ((with_reducible refine dops_guardI (t := ?_) ?_ (fun hcQ => ?_) (fun hcQ => ?_)); rotate_left; · rfl)) <;> (have hn := hcQ; have hcondQ := hcQ) <;> (try simp only [decide_eq_true_eq, decide_eq_false_iff_not, beq_iff_eq, bne_iff_ne, ne_eq, Bool.and_eq_true, Bool.or_eq_true, Bool.not_eq_true, Bool.not_eq_false, beq_eq_false_iff_ne, bne_eq_false_iff_eq, Bool.not_eq_true', Bool.not_eq_false', Int.ofNat_lt, Int.ofNat_le, Bool.or_eq_false_iff, Bool.and_eq_false_imp, Decidable.not_not, gt_iff_lt, ge_iff_le] at hn) <;> (try (exfalso; omega)) <;> (refine Todo.of ?_)) | (((with_reducible refine dwp_condA ?_ ?_ ?_); · rfl) <;> (refine Todo.of ?_)))) <;> (try (first | (with_reducible rfl) | exact Nat.le_refl _ | exact Int.le_refl _ | assumption | omega))
    all_goals rfl
  cases k6 : (acc.length == 6000)
  rotate_left
  · have e := hbad (by simp [r, k6])
    subst e
    rw [r] at er
    rw [k6] at len6
    (have hcondQ := Bool.and_self; refine Todo.of ?_); (repeat' (first | ((with_reducible refine Todo.to ?_); (repeat (first | (simp only [↓rP, rT, rU, eI, eU, eB, eS, eBs, eL, eA, buildCells, sepsD, sepB, hdl, dvalX, DOp.kind, dval, frameFrom, dBin, dInt, dStr, dBeq, dUn, dLoad, cellsAt, retV, retL, DR.val, fzT, fzVs, fzV, fz1, DV.immB, IntKind.bits, dCallP, viewVs, viewV, view1, capVL, capV, viewL, noMemV, noMem, elemsOf, dAppend, dAppz, dStore, DV.one, alive, freezeAt, fzLL, fzL, bRow, bU, cellsOf, setFrom, DV.isU, lenMax, lenCap, Nat.reduceEqDiff, Nat.reduceAdd, ↓reduceIte, reduceCtorEq, Nat.reduceSub, Int.reduceToNat, Int.reducePow, Nat.reducePow, Int.reduceLE, Int.reduceLT, Nat.reduceLeDiff, Nat.reduceLT, Int.reduceBEq, Int.reduceBNe, Int.reduceEq, Int.reduceNe, Int.reduceAdd, Int.reduceSub, Int.reduceMul, Int.reduceNeg, Int.reduceTDiv, Int.reduceTMod, Int.reduceMod, Int.reduceDiv, Nat.reduceMul, forall_const, implies_true, d_noriaref28_Get, eIls, eIn4, eIn4s, eRows, eSs, eY, sls_len, ils_len, ils_rowsT, sls_rowsT, sls_tk0, ils_tk0, in_rowsT, in_tk0, eM, eO, o5, er, len6 , hcondQ]) | (simp (disch := omega) only [i64_id, u64_id, u8_id, getD_map'])))) | ((with_reducible refine And.intro ?_ ?_); · first | trivial | omega | (simp; done) | (simp; omega)) | ((first | ((with_reducible refine dwp_condI (t := ?_) ?_ (fun hcQ => ?_) (fun hcQ => ?_)); rotate_left; · rfl) | ((with_reducible refine dops_guardI (t := ?_) ?_ (fun hcQ => ?_) (fun hcQ => ?_)); rotate_left; · rfl)) <;> (have hn := hcQ; have hcondQ := hcQ) <;> (try simp only [decide_eq_true_eq, decide_eq_false_iff_not, beq_iff_eq, bne_iff_ne, ne_eq, Bool.and_eq_true, Bool.or_eq_true, Bool.not_eq_true, Bool.not_eq_false, beq_eq_false_iff_ne, bne_eq_false_iff_eq, Bool.not_eq_true', Bool.not_eq_false', Int.ofNat_lt, Int.ofNat_le, Bool.or_eq_false_iff, Bool.and_eq_false_imp, Decidable.not_not, gt_iff_lt, ge_iff_le] at hn) <;> (try (exfalso; omega)) <;> (refine Todo.of ?_)) | (((with_reducible refine dwp_condA ?_ ?_ ?_); · rfl) <;> (refine Todo.of ?_)))) <;> (try (first | (with_reducible rfl) | exact Nat.le_refl _ | exact Int.le_refl _ | assumption | omega))
    all_goals rfl
  have e := hgg (by simp [r, k6])
  rw [r] at er
  rw [k6] at len6
  (have hcondQ := Bool.and_self; refine Todo.of ?_); (repeat' (first | ((with_reducible refine Todo.to ?_); (repeat (first | (simp only [↓rP, rT, rU, eI, eU, eB, eS, eBs, eL, eA, buildCells, sepsD, sepB, hdl, dvalX, DOp.kind, dval, frameFrom, dBin, dInt, dStr, dBeq, dUn, dLoad, cellsAt, retV, retL, DR.val, fzT, fzVs, fzV, fz1, DV.immB, IntKind.bits, dCallP, viewVs, viewV, view1, capVL, capV, viewL, noMemV, noMem, elemsOf, dAppend, dAppz, dStore, DV.one, alive, freezeAt, fzLL, fzL, bRow, bU, cellsOf, setFrom, DV.isU, lenMax, lenCap, Nat.reduceEqDiff, Nat.reduceAdd, ↓reduceIte, reduceCtorEq, Nat.reduceSub, Int.reduceToNat, Int.reducePow, Nat.reducePow, Int.reduceLE, Int.reduceLT, Nat.reduceLeDiff, Nat.reduceLT, Int.reduceBEq, Int.reduceBNe, Int.reduceEq, Int.reduceNe, Int.reduceAdd, Int.reduceSub, Int.reduceMul, Int.reduceNeg, Int.reduceTDiv, Int.reduceTMod, Int.reduceMod, Int.reduceDiv, Nat.reduceMul, forall_const, implies_true, d_noriaref28_Get, eIls, eIn4, eIn4s, eRows, eSs, eY, sls_len, ils_len, ils_rowsT, sls_rowsT, sls_tk0, ils_tk0, in_rowsT, in_tk0, eM, eO, o5, er, len6, in_snoc, List.length_map , hcondQ]) | (simp (disch := omega) only [i64_id, u64_id, u8_id, getD_map'])))) | ((with_reducible refine And.intro ?_ ?_); · first | trivial | omega | (simp; done) | (simp; omega)) | ((first | ((with_reducible refine dwp_condI (t := ?_) ?_ (fun hcQ => ?_) (fun hcQ => ?_)); rotate_left; · rfl) | ((with_reducible refine dops_guardI (t := ?_) ?_ (fun hcQ => ?_) (fun hcQ => ?_)); rotate_left; · rfl)) <;> (have hn := hcQ; have hcondQ := hcQ) <;> (try simp only [decide_eq_true_eq, decide_eq_false_iff_not, beq_iff_eq, bne_iff_ne, ne_eq, Bool.and_eq_true, Bool.or_eq_true, Bool.not_eq_true, Bool.not_eq_false, beq_eq_false_iff_ne, bne_eq_false_iff_eq, Bool.not_eq_true', Bool.not_eq_false', Int.ofNat_lt, Int.ofNat_le, Bool.or_eq_false_iff, Bool.and_eq_false_imp, Decidable.not_not, gt_iff_lt, ge_iff_le] at hn) <;> (try (exfalso; omega)) <;> (refine Todo.of ?_)) | (((with_reducible refine dwp_condA ?_ ?_ ?_); · rfl) <;> (refine Todo.of ?_)))) <;> (try (first | (with_reducible rfl) | exact Nat.le_refl _ | exact Int.le_refl _ | assumption | omega))
  all_goals first | omega | exact ⟨(f, a', acc ++ [x]), by simp only [cut_some, cut_none, List.map_cons, List.map_nil, get_cons, Nk.get_nil, Nat.reduceEqDiff, ↓reduceIte, Nat.succ_ne_self, DV.cut, DV.inB, DObj.cut, List.take_nil, List.take_zero, if_true, Nat.zero_ne_one, Nat.one_ne_zero, DV.inBL, Bool.and_true, Bool.true_and, reduceCtorEq, Nat.zero_lt_one, decide_true, decide_false, Nat.reduceLT, List.take_succ_cons, Int.natCast_add, Int.natCast_one, List.length_append, List.length_cons, List.length_nil, Nat.zero_add, oR] <;> rfl, ⟨h2, by simp only; omega, e.symm, by simp only [List.length_append, List.length_cons, List.length_nil]; omega⟩, by simp only; omega⟩
set_option maxHeartbeats 2000000 in
theorem ok_instr_Get : OkP Tryd.prog 15 (specB1 fGetI) := by
  refine OkP.mk (ps := [(8, s_IRight)]) (hs := [(33, s_rFrom), (34, s_More), (35, s_iInstr), (36, s_Ok)]) (n := 1) ⟨ok_instr_Right, trivial⟩ ⟨ok_reader_From, ok_reader_More, ok_instr_in_instr, ok_reader_Ok, trivial⟩ m_instr_Get
    (specB1_ok fun l h => ?_)
  have h : l.length ≤ 100000 := h
  unfold fGetI
  dsimp only
  generalize hG : getI l = G
  
  have eF : ∀ o, s_rFrom [.sl (bsl l)] [o] = ⟨True, .ptr 1 1 0 0, [o, oP (some (l, 0))]⟩ := fun o => by
    rw [s_rFrom_at, eq_true (show l.length ≤ 4294967296 by omega)]; rfl
  (have hcondQ := Bool.and_self; refine Todo.of ?_); (repeat' (first | ((with_reducible refine Todo.to ?_); (repeat (first | (simp only [↓rP, rT, rU, eI, eU, eB, eS, eBs, eL, eA, buildCells, sepsD, sepB, hdl, dvalX, DOp.kind, dval, frameFrom, dBin, dInt, dStr, dBeq, dUn, dLoad, cellsAt, retV, retL, DR.val, fzT, fzVs, fzV, fz1, DV.immB, IntKind.bits, dCallP, viewVs, viewV, view1, capVL, capV, viewL, noMemV, noMem, elemsOf, dAppend, dAppz, dStore, DV.one, alive, freezeAt, fzLL, fzL, bRow, bU, cellsOf, setFrom, DV.isU, lenMax, lenCap, Nat.reduceEqDiff, Nat.reduceAdd, ↓reduceIte, reduceCtorEq, Nat.reduceSub, Int.reduceToNat, Int.reducePow, Nat.reducePow, Int.reduceLE, Int.reduceLT, Nat.reduceLeDiff, Nat.reduceLT, Int.reduceBEq, Int.reduceBNe, Int.reduceEq, Int.reduceNe, Int.reduceAdd, Int.reduceSub, Int.reduceMul, Int.reduceNeg, Int.reduceTDiv, Int.reduceTMod, Int.reduceMod, Int.reduceDiv, Nat.reduceMul, forall_const, implies_true, d_instr_Get, eIls, eIn4, eIn4s, eRows, eSs, eY, sls_len, ils_len, ils_rowsT, sls_rowsT, sls_tk0, ils_tk0, in_rowsT, in_tk0, eF , hcondQ]) | (simp (disch := omega) only [i64_id, u64_id, u8_id, getD_map'])))) | ((with_reducible refine And.intro ?_ ?_); · first | trivial | omega | (simp; done) | (simp; omega)) | ((first | ((with_reducible refine dwp_condI (t := ?_) ?_ (fun hcQ => ?_) (fun hcQ => ?_)); rotate_left; · rfl) | ((with_reducible refine dops_guardI (t := ?_) ?_ (fun hcQ => ?_) (fun hcQ => ?_)); rotate_left; · rfl)) <;> (have hn := hcQ; have hcondQ := hcQ) <;> (try simp only [decide_eq_true_eq, decide_eq_false_iff_not, beq_iff_eq, bne_iff_ne, ne_eq, Bool.and_eq_true, Bool.or_eq_true, Bool.not_eq_true, Bool.not_eq_false, beq_eq_false_iff_ne, bne_eq_false_iff_eq, Bool.not_eq_true', Bool.not_eq_false', Int.ofNat_lt, Int.ofNat_le, Bool.or_eq_false_iff, Bool.and_eq_false_imp, Decidable.not_not, gt_iff_lt, ge_iff_le] at hn) <;> (try (exfalso; omega)) <;> (refine Todo.of ?_)) | (((with_reducible refine dwp_condA ?_ ?_ ?_); · rfl) <;> (refine Todo.of ?_)))) <;> (try (first | (with_reducible rfl) | exact Nat.le_refl _ | exact Int.le_refl _ | assumption | omega))
  refine dwp_loop (fun x : Nat × Nat × List In4 => ⟨[(4, .own 0 x.2.2.length 0 x.2.2.length), (5, .ptr 2 1 0 0)], [⟨.imm, 4, x.2.2.map cIn⟩, oP (some (l, x.2.1)), ⟨.loc, 1, [[.ptr 1 1 0 0]]⟩]⟩) (fun x => GI l G x.1 x.2.1 x.2.2) (fun x => l.length - x.2.1) (l.length + 1, 0, []) (Nat.zero_le _) (by simp only [cut_some, cut_none, List.map_cons, List.map_nil, get_cons, Nk.get_nil, Nat.reduceEqDiff, ↓reduceIte, Nat.succ_ne_self, DV.cut, DV.inB, DObj.cut, List.take_nil, List.take_zero, if_true, Nat.zero_ne_one, Nat.one_ne_zero, DV.inBL, Bool.and_true, Bool.true_and, reduceCtorEq, Nat.zero_lt_one, decide_true, decide_false, Nat.reduceLT, List.take_succ_cons, Int.natCast_add, Int.natCast_one, List.length_append, List.length_cons, List.length_nil, Nat.zero_add, oP] <;> rfl) ⟨Nat.zero_le _, by simp only; omega, hG, Nat.zero_le _⟩ fun x hx => ?_
  obtain ⟨f, a, acc⟩ := x
  obtain ⟨ha, hf, hg, hl⟩ := hx
  simp only at ha hf hg hl ⊢
  obtain ⟨f, rfl⟩ : ∃ f', f = f' + 1 := ⟨f - 1, by omega⟩
  have hok : okP (some (l, a)) := ⟨ha, by show l.length ≤ 4294967296; omega⟩
  have hokq : okQ (l, some a) := ⟨ha, by show l.length ≤ 4294967296; omega⟩
  have eM : ∀ o t, s_More [.ptr 1 1 0 0] (o :: oP (some (l, a)) :: t) = ⟨True, .bool (qMore (l, some a)), o :: oP (some (l, a)) :: t⟩ := fun o t => s_More_at (r := some (l, a)) rfl
  cases c : qMore (l, some a)
  · rw [getL_stop c] at hg
    rw [c] at eM
    subst hg
    (have hcondQ := Bool.and_self; refine Todo.of ?_); (repeat' (first | ((with_reducible refine Todo.to ?_); (repeat (first | (simp only [↓rP, rT, rU, eI, eU, eB, eS, eBs, eL, eA, buildCells, sepsD, sepB, hdl, dvalX, DOp.kind, dval, frameFrom, dBin, dInt, dStr, dBeq, dUn, dLoad, cellsAt, retV, retL, DR.val, fzT, fzVs, fzV, fz1, DV.immB, IntKind.bits, dCallP, viewVs, viewV, view1, capVL, capV, viewL, noMemV, noMem, elemsOf, dAppend, dAppz, dStore, DV.one, alive, freezeAt, fzLL, fzL, bRow, bU, cellsOf, setFrom, DV.isU, lenMax, lenCap, Nat.reduceEqDiff, Nat.reduceAdd, ↓reduceIte, reduceCtorEq, Nat.reduceSub, Int.reduceToNat, Int.reducePow, Nat.reducePow, Int.reduceLE, Int.reduceLT, Nat.reduceLeDiff, Nat.reduceLT, Int.reduceBEq, Int.reduceBNe, Int.reduceEq, Int.reduceNe, Int.reduceAdd, Int.reduceSub, Int.reduceMul, Int.reduceNeg, Int.reduceTDiv, Int.reduceTMod, Int.reduceMod, Int.reduceDiv, Nat.reduceMul, forall_const, implies_true, d_instr_Get, eIls, eIn4, eIn4s, eRows, eSs, eY, sls_len, ils_len, ils_rowsT, sls_rowsT, sls_tk0, ils_tk0, in_rowsT, in_tk0, eM , hcondQ]) | (simp (disch := omega) only [i64_id, u64_id, u8_id, getD_map'])))) | ((with_reducible refine And.intro ?_ ?_); · first | trivial | omega | (simp; done) | (simp; omega)) | ((first | ((with_reducible refine dwp_condI (t := ?_) ?_ (fun hcQ => ?_) (fun hcQ => ?_)); rotate_left; · rfl) | ((with_reducible refine dops_guardI (t := ?_) ?_ (fun hcQ => ?_) (fun hcQ => ?_)); rotate_left; · rfl)) <;> (have hn := hcQ; have hcondQ := hcQ) <;> (try simp only [decide_eq_true_eq, decide_eq_false_iff_not, beq_iff_eq, bne_iff_ne, ne_eq, Bool.and_eq_true, Bool.or_eq_true, Bool.not_eq_true, Bool.not_eq_false, beq_eq_false_iff_ne, bne_eq_false_iff_eq, Bool.not_eq_true', Bool.not_eq_false', Int.ofNat_lt, Int.ofNat_le, Bool.or_eq_false_iff, Bool.and_eq_false_imp, Decidable.not_not, gt_iff_lt, ge_iff_le] at hn) <;> (try (exfalso; omega)) <;> (refine Todo.of ?_)) | (((with_reducible refine dwp_condA ?_ ?_ ?_); · rfl) <;> (refine Todo.of ?_)))) <;> (try (first | (with_reducible rfl) | exact Nat.le_refl _ | exact Int.le_refl _ | assumption | omega))
    rfl
  rw [c] at eM
  have hto := oneV_to l (some a)
  have eO : ∀ o t, s_iInstr [.agg [.ptr 1 1 0 0]] (o :: oP (some (l, a)) :: t) = ⟨True, .agg (cIn (oneQ (l, some a)).1), o :: oP (toP l (oneQ (l, some a)).2.2) :: t⟩ := fun o t => by
    rw [s_iInstr_at (r := some (l, a)) rfl, eq_true hok, ← hto.1, ← hto.2.1]; rfl
  have hin := oneQ_in hokq
  have hgo : ∀ a', (oneQ (l, some a)).2.2 = some a' → a < a' := fun a' => oneQ_go
  have hfst : (oneQ (l, some a)).2.1 = l := hto.2.2
  have hbad := getL_bad (f := f) (acc := acc) c
  have hgg := getL_go (f := f) (acc := acc) c
  rw [hg] at hbad hgg
  clear hto
  generalize oneQ (l, some a) = O at eO hin hgo hfst hbad hgg
  obtain ⟨x, l', s'⟩ := O
  simp only at hfst hin hgo hbad hgg eO
  subst hfst
  have er := s_IRight_at x
  have len6 : ((acc.length : Int) == 6000) = (acc.length == 6000) := by
    rw [Bool.eq_iff_iff]; simp; omega
  have eK : ∀ o t, s_Ok [.ptr 1 1 0 0] (o :: oP (toP l' s') :: t) = ⟨True, .bool s'.isSome, o :: oP (toP l' s') :: t⟩ := fun o t => by
    rw [s_Ok_at (r := toP l' s') rfl]; cases s' <;> rfl
  rcases s' with _ | a'
  · have e := hbad (by simp)
    subst e
    simp only [Option.isSome_none] at eK
    (have hcondQ := Bool.and_self; refine Todo.of ?_); (repeat' (first | ((with_reducible refine Todo.to ?_); (repeat (first | (simp only [↓rP, rT, rU, eI, eU, eB, eS, eBs, eL, eA, buildCells, sepsD, sepB, hdl, dvalX, DOp.kind, dval, frameFrom, dBin, dInt, dStr, dBeq, dUn, dLoad, cellsAt, retV, retL, DR.val, fzT, fzVs, fzV, fz1, DV.immB, IntKind.bits, dCallP, viewVs, viewV, view1, capVL, capV, viewL, noMemV, noMem, elemsOf, dAppend, dAppz, dStore, DV.one, alive, freezeAt, fzLL, fzL, bRow, bU, cellsOf, setFrom, DV.isU, lenMax, lenCap, Nat.reduceEqDiff, Nat.reduceAdd, ↓reduceIte, reduceCtorEq, Nat.reduceSub, Int.reduceToNat, Int.reducePow, Nat.reducePow, Int.reduceLE, Int.reduceLT, Nat.reduceLeDiff, Nat.reduceLT, Int.reduceBEq, Int.reduceBNe, Int.reduceEq, Int.reduceNe, Int.reduceAdd, Int.reduceSub, Int.reduceMul, Int.reduceNeg, Int.reduceTDiv, Int.reduceTMod, Int.reduceMod, Int.reduceDiv, Nat.reduceMul, forall_const, implies_true, d_instr_Get, eIls, eIn4, eIn4s, eRows, eSs, eY, sls_len, ils_len, ils_rowsT, sls_rowsT, sls_tk0, ils_tk0, in_rowsT, in_tk0, eM, eO, eK , hcondQ]) | (simp (disch := omega) only [i64_id, u64_id, u8_id, getD_map'])))) | ((with_reducible refine And.intro ?_ ?_); · first | trivial | omega | (simp; done) | (simp; omega)) | ((first | ((with_reducible refine dwp_condI (t := ?_) ?_ (fun hcQ => ?_) (fun hcQ => ?_)); rotate_left; · rfl) | ((with_reducible refine dops_guardI (t := ?_) ?_ (fun hcQ => ?_) (fun hcQ => ?_)); rotate_left; · rfl)) <;> (have hn := hcQ; have hcondQ := hcQ) <;> (try simp only [decide_eq_true_eq, decide_eq_false_iff_not, beq_iff_eq, bne_iff_ne, ne_eq, Bool.and_eq_true, Bool.or_eq_true, Bool.not_eq_true, Bool.not_eq_false, beq_eq_false_iff_ne, bne_eq_false_iff_eq, Bool.not_eq_true', Bool.not_eq_false', Int.ofNat_lt, Int.ofNat_le, Bool.or_eq_false_iff, Bool.and_eq_false_imp, Decidable.not_not, gt_iff_lt, ge_iff_le] at hn) <;> (try (exfalso; omega)) <;> (refine Todo.of ?_)) | (((with_reducible refine dwp_condA ?_ ?_ ?_); · rfl) <;> (refine Todo.of ?_)))) <;> (try (first | (with_reducible rfl) | exact Nat.le_refl _ | exact Int.le_refl _ | assumption | omega))
    all_goals rfl
  have h1 := hgo a' rfl
  have h2 : a' ≤ l'.length := hin.1
  simp only [Option.isSome_some] at eK
  cases r : rightI x
  · have e := hbad (by simp [r])
    subst e
    rw [r] at er
    (have hcondQ := Bool.and_self; refine Todo.of ?_); (repeat' (first | ((with_reducible refine Todo.to ?_); (repeat (first | (simp only [↓rP, rT, rU, eI, eU, eB, eS, eBs, eL, eA, buildCells, sepsD, sepB, hdl, dvalX, DOp.kind, dval, frameFrom, dBin, dInt, dStr, dBeq, dUn, dLoad, cellsAt, retV, retL, DR.val, fzT, fzVs, fzV, fz1, DV.immB, IntKind.bits, dCallP, viewVs, viewV, view1, capVL, capV, viewL, noMemV, noMem, elemsOf, dAppend, dAppz, dStore, DV.one, alive, freezeAt, fzLL, fzL, bRow, bU, cellsOf, setFrom, DV.isU, lenMax, lenCap, Nat.reduceEqDiff, Nat.reduceAdd, ↓reduceIte, reduceCtorEq, Nat.reduceSub, Int.reduceToNat, Int.reducePow, Nat.reducePow, Int.reduceLE, Int.reduceLT, Nat.reduceLeDiff, Nat.reduceLT, Int.reduceBEq, Int.reduceBNe, Int.reduceEq, Int.reduceNe, Int.reduceAdd, Int.reduceSub, Int.reduceMul, Int.reduceNeg, Int.reduceTDiv, Int.reduceTMod, Int.reduceMod, Int.reduceDiv, Nat.reduceMul, forall_const, implies_true, d_instr_Get, eIls, eIn4, eIn4s, eRows, eSs, eY, sls_len, ils_len, ils_rowsT, sls_rowsT, sls_tk0, ils_tk0, in_rowsT, in_tk0, eM, eO, eK, er , hcondQ]) | (simp (disch := omega) only [i64_id, u64_id, u8_id, getD_map'])))) | ((with_reducible refine And.intro ?_ ?_); · first | trivial | omega | (simp; done) | (simp; omega)) | ((first | ((with_reducible refine dwp_condI (t := ?_) ?_ (fun hcQ => ?_) (fun hcQ => ?_)); rotate_left; · rfl) | ((with_reducible refine dops_guardI (t := ?_) ?_ (fun hcQ => ?_) (fun hcQ => ?_)); rotate_left; · rfl)) <;> (have hn := hcQ; have hcondQ := hcQ) <;> (try simp only [decide_eq_true_eq, decide_eq_false_iff_not, beq_iff_eq, bne_iff_ne, ne_eq, Bool.and_eq_true, Bool.or_eq_true, Bool.not_eq_true, Bool.not_eq_false, beq_eq_false_iff_ne, bne_eq_false_iff_eq, Bool.not_eq_true', Bool.not_eq_false', Int.ofNat_lt, Int.ofNat_le, Bool.or_eq_false_iff, Bool.and_eq_false_imp, Decidable.not_not, gt_iff_lt, ge_iff_le] at hn) <;> (try (exfalso; omega)) <;> (refine Todo.of ?_)) | (((with_reducible refine dwp_condA ?_ ?_ ?_); · rfl) <;> (refine Todo.of ?_)))) <;> (try (first | (with_reducible rfl) | exact Nat.le_refl _ | exact Int.le_refl _ | assumption | omega))
    all_goals rfl
  cases k6 : (acc.length == 6000)
  rotate_left
  · have e := hbad (by simp [r, k6])
    subst e
    rw [r] at er
    rw [k6] at len6
    (have hcondQ := Bool.and_self; refine Todo.of ?_); (repeat' (first | ((with_reducible refine Todo.to ?_); (repeat (first | (simp only [↓rP, rT, rU, eI, eU, eB, eS, eBs, eL, eA, buildCells, sepsD, sepB, hdl, dvalX, DOp.kind, dval, frameFrom, dBin, dInt, dStr, dBeq, dUn, dLoad, cellsAt, retV, retL, DR.val, fzT, fzVs, fzV, fz1, DV.immB, IntKind.bits, dCallP, viewVs, viewV, view1, capVL, capV, viewL, noMemV, noMem, elemsOf, dAppend, dAppz, dStore, DV.one, alive, freezeAt, fzLL, fzL, bRow, bU, cellsOf, setFrom, DV.isU, lenMax, lenCap, Nat.reduceEqDiff, Nat.reduceAdd, ↓reduceIte, reduceCtorEq, Nat.reduceSub, Int.reduceToNat, Int.reducePow, Nat.reducePow, Int.reduceLE, Int.reduceLT, Nat.reduceLeDiff, Nat.reduceLT, Int.reduceBEq, Int.reduceBNe, Int.reduceEq, Int.reduceNe, Int.reduceAdd, Int.reduceSub, Int.reduceMul, Int.reduceNeg, Int.reduceTDiv, Int.reduceTMod, Int.reduceMod, Int.reduceDiv, Nat.reduceMul, forall_const, implies_true, d_instr_Get, eIls, eIn4, eIn4s, eRows, eSs, eY, sls_len, ils_len, ils_rowsT, sls_rowsT, sls_tk0, ils_tk0, in_rowsT, in_tk0, eM, eO, eK, er, len6 , hcondQ]) | (simp (disch := omega) only [i64_id, u64_id, u8_id, getD_map'])))) | ((with_reducible refine And.intro ?_ ?_); · first | trivial | omega | (simp; done) | (simp; omega)) | ((first | ((with_reducible refine dwp_condI (t := ?_) ?_ (fun hcQ => ?_) (fun hcQ => ?_)); rotate_left; · rfl) | ((with_reducible refine dops_guardI (t := ?_) ?_ (fun hcQ => ?_) (fun hcQ => ?_)); rotate_left; · rfl)) <;> (have hn := hcQ; have hcondQ := hcQ) <;> (try simp only [decide_eq_true_eq, decide_eq_false_iff_not, beq_iff_eq, bne_iff_ne, ne_eq, Bool.and_eq_true, Bool.or_eq_true, Bool.not_eq_true, Bool.not_eq_false, beq_eq_false_iff_ne, bne_eq_false_iff_eq, Bool.not_eq_true', Bool.not_eq_false', Int.ofNat_lt, Int.ofNat_le, Bool.or_eq_false_iff, Bool.and_eq_false_imp, Decidable.not_not, gt_iff_lt, ge_iff_le] at hn) <;> (try (exfalso; omega)) <;> (refine Todo.of ?_)) | (((with_reducible refine dwp_condA ?_ ?_ ?_); · rfl) <;> (refine Todo.of ?_)))) <;> (try (first | (with_reducible rfl) | exact Nat.le_refl _ | exact Int.le_refl _ | assumption | omega))
    all_goals rfl
  have e := hgg (by simp [r, k6])
  rw [r] at er
  rw [k6] at len6
  (have hcondQ := Bool.and_self; refine Todo.of ?_); (repeat' (first | ((with_reducible refine Todo.to ?_); (repeat (first | (simp only [↓rP, rT, rU, eI, eU, eB, eS, eBs, eL, eA, buildCells, sepsD, sepB, hdl, dvalX, DOp.kind, dval, frameFrom, dBin, dInt, dStr, dBeq, dUn, dLoad, cellsAt, retV, retL, DR.val, fzT, fzVs, fzV, fz1, DV.immB, IntKind.bits, dCallP, viewVs, viewV, view1, capVL, capV, viewL, noMemV, noMem, elemsOf, dAppend, dAppz, dStore, DV.one, alive, freezeAt, fzLL, fzL, bRow, bU, cellsOf, setFrom, DV.isU, lenMax, lenCap, Nat.reduceEqDiff, Nat.reduceAdd, ↓reduceIte, reduceCtorEq, Nat.reduceSub, Int.reduceToNat, Int.reducePow, Nat.reducePow, Int.reduceLE, Int.reduceLT, Nat.reduceLeDiff, Nat.reduceLT, Int.reduceBEq, Int.reduceBNe, Int.reduceEq, Int.reduceNe, Int.reduceAdd, Int.reduceSub, Int.reduceMul, Int.reduceNeg, Int.reduceTDiv, Int.reduceTMod, Int.reduceMod, Int.reduceDiv, Nat.reduceMul, forall_const, implies_true, d_instr_Get, eIls, eIn4, eIn4s, eRows, eSs, eY, sls_len, ils_len, ils_rowsT, sls_rowsT, sls_tk0, ils_tk0, in_rowsT, in_tk0, eM, eO, eK, er, len6, in_snoc, List.length_map , hcondQ]) | (simp (disch := omega) only [i64_id, u64_id, u8_id, getD_map'])))) | ((with_reducible refine And.intro ?_ ?_); · first | trivial | omega | (simp; done) | (simp; omega)) | ((first | ((with_reducible refine dwp_condI (t := ?_) ?_ (fun hcQ => ?_) (fun hcQ => ?_)); rotate_left; · rfl) | ((with_reducible refine dops_guardI (t := ?_) ?_ (fun hcQ => ?_) (fun hcQ => ?_)); rotate_left; · rfl)) <;> (have hn := hcQ; have hcondQ := hcQ) <;> (try simp only [decide_eq_true_eq, decide_eq_false_iff_not, beq_iff_eq, bne_iff_ne, ne_eq, Bool.and_eq_true, Bool.or_eq_true, Bool.not_eq_true, Bool.not_eq_false, beq_eq_false_iff_ne, bne_eq_false_iff_eq, Bool.not_eq_true', Bool.not_eq_false', Int.ofNat_lt, Int.ofNat_le, Bool.or_eq_false_iff, Bool.and_eq_false_imp, Decidable.not_not, gt_iff_lt, ge_iff_le] at hn) <;> (try (exfalso; omega)) <;> (refine Todo.of ?_)) | (((with_reducible refine dwp_condA ?_ ?_ ?_); · rfl) <;> (refine Todo.of ?_)))) <;> (try (first | (with_reducible rfl) | exact Nat.le_refl _ | exact Int.le_refl _ | assumption | omega))
  all_goals first | omega | exact ⟨(f, a', acc ++ [x]), by simp only [cut_some, cut_none, List.map_cons, List.map_nil, get_cons, Nk.get_nil, Nat.reduceEqDiff, ↓reduceIte, Nat.succ_ne_self, DV.cut, DV.inB, DObj.cut, List.take_nil, List.take_zero, if_true, Nat.zero_ne_one, Nat.one_ne_zero, DV.inBL, Bool.and_true, Bool.true_and, reduceCtorEq, Nat.zero_lt_one, decide_true, decide_false, Nat.reduceLT, List.take_succ_cons, Int.natCast_add, Int.natCast_one, List.length_append, List.length_cons, List.length_nil, Nat.zero_add, oP, toP, Option.map_some] <;> rfl, ⟨h2, by simp only; omega, e.symm, by simp only [List.length_append, List.length_cons, List.length_nil]; omega⟩, by simp only; omega⟩
end Go.Proofs.YtnbmpdhgejppaaaDoor

/- What is put is got; what is got is put as it was. -/
set_option linter.all false
set_option maxRecDepth 20000
namespace Go.Proofs.YtnbmpdhgejppaaaDoor
open Go.Nk

/-- From a place on stand these bytes. -/
def AtB (l : List UInt8) (a : Nat) (c : List UInt8) : Prop := ∃ pre post, l = pre ++ (c ++ post) ∧ a = pre.length
theorem AtB.app {l : List UInt8} {a : Nat} {c d : List UInt8} (h : AtB l a (c ++ d)) : AtB l a c ∧ AtB l (a + c.length) d := by
  obtain ⟨pre, post, rfl, rfl⟩ := h
  exact ⟨⟨pre, d ++ post, by simp, rfl⟩, ⟨pre ++ c, post, by simp, by simp⟩⟩
theorem AtB.join {l : List UInt8} {a : Nat} {c d : List UInt8} (h : AtB l a c) (k : AtB l (a + c.length) d) : AtB l a (c ++ d) := by
  obtain ⟨pre, post, rfl, rfl⟩ := h
  obtain ⟨p2, q2, h1, h2⟩ := k
  rw [← List.append_assoc] at h1
  have h3 : pre ++ c = p2 ∧ post = d ++ q2 := List.append_inj h1 (by simp; omega)
  exact ⟨pre, q2, by rw [h3.2]; simp, rfl⟩
theorem AtB.drop {l : List UInt8} {a : Nat} {d : List UInt8} (h : AtB l a d) : l.drop a = d ++ l.drop (a + d.length) := by
  obtain ⟨pre, post, rfl, rfl⟩ := h
  rw [List.drop_left, ← List.append_assoc, ← List.length_append, List.drop_left]
theorem at_num {l : List UInt8} {a : Nat} {k z : Int} (h : AtB l a (putL k.toNat z.toNat)) (hz : z = 1 ∨ z = 2) (hk : 0 ≤ k ∧ k < 256 ^ z.toNat) : numV (some (l, a)) z = k ∧ nextS (some (l, a)) (szN z) = some (l, a + z.toNat) := by
  obtain ⟨pre, post, rfl, rfl⟩ := h
  refine num_back pre post (by omega) (by omega) (by omega) ?_
  have := hk.2
  push_cast
  omega
theorem at_int {l : List UInt8} {a : Nat} {x : Int} (h : AtB l a (intL x)) (hx : okI64 x) : intV (some (l, a)) = x ∧ intS (some (l, a)) = some (l, a + (intL x).length) := by
  obtain ⟨pre, post, rfl, rfl⟩ := h
  have := int_back pre post hx
  unfold intL
  rw [List.append_assoc]
  refine ⟨this.1, this.2.trans ?_⟩
  rw [List.length_append, putL_length, Nat.add_assoc]
theorem bytesI_kinds {x : In4} (h : rightI x = true) : (x.op = 1 ∧ bytesI x = putL 1 1 ++ (putL x.a.toNat 2 ++ intL x.n)) ∨ ((x.op = 2 ∨ x.op = 3 ∨ x.op = 6 ∨ x.op = 7) ∧ bytesI x = putL x.op.toNat 1 ++ putL x.a.toNat 2) ∨
    ((x.op = 4 ∨ x.op = 5) ∧ bytesI x = putL x.op.toNat 1 ++ putL x.a.toNat 1) ∨ ((x.op = 8 ∨ x.op = 9) ∧ bytesI x = putL x.op.toNat 1 ++ (putL x.a.toNat 2 ++ putL x.b.toNat 1)) ∨ (x.op = 10 ∧ bytesI x = putL x.op.toNat 1) := by
  have ho := right_op h
  obtain ⟨op, a, b, n⟩ := x
  simp only at ho ⊢
  unfold okOp at ho
  rcases ho with rfl | rfl | rfl | rfl | rfl | rfl | rfl | rfl | rfl | rfl <;> simp [bytesI, fmI]
theorem one_back {l : List UInt8} {a : Nat} {x : In4} (h : AtB l a (bytesI x)) (hr : rightI x = true) (hn : okI64 x.n) : oneV (some (l, a)) = (x, some (l, a + (bytesI x).length)) := by
  have rng := right_rng hr
  have hk := bytesI_kinds hr
  obtain ⟨op, aa, b, n⟩ := x
  simp only at hk rng hn
  rcases hk with ⟨rfl, e⟩ | ⟨ho, e⟩ | ⟨ho, e⟩ | ⟨ho, e⟩ | ⟨rfl, e⟩ <;> rw [e] at h ⊢
  · obtain ⟨h1, h2⟩ := h.app
    obtain ⟨h2, h3⟩ := h2.app
    have n1 := at_num (k := 1) (z := 1) h1 (.inl rfl) (by decide)
    rw [putL_length] at h2 h3
    have n2 := at_num (k := aa) (z := 2) h2 (.inr rfl) (by simpa using rng.2.1 rfl)
    rw [putL_length] at h3
    have n3 := at_int h3 hn
    have hb : b = 0 := by simp [rightI, fmI, firstI] at hr; omega
    simp only [Int.toNat_one, Int.reduceToNat] at n1 n2
    simp only [oneV, n1.1, n1.2, n2.1, n2.2, n3.1, n3.2, fmI, ↓reduceIte, Int.reduceEq, Bool.false_eq_true, hb, List.length_append, putL_length, Nat.add_assoc]
  · obtain ⟨h1, h2⟩ := h.app
    have n1 := at_num (k := op) (z := 1) h1 (.inl rfl) (by simpa using rng.1)
    rw [putL_length] at h2
    have hw : (fmI op).w = true ∧ (fmI op).s = false ∧ (fmI op).b = false ∧ (fmI op).n = false := by rcases ho with rfl | rfl | rfl | rfl <;> decide
    have hz : b = 0 ∧ n = 0 := by rcases ho with rfl | rfl | rfl | rfl <;> (simp [rightI, fmI, firstI] at hr; omega)
    have n2 := at_num (k := aa) (z := 2) h2 (.inr rfl) (by simpa using rng.2.1 hw.1)
    simp only [Int.toNat_one, Int.reduceToNat] at n1 n2
    simp only [oneV, n1.1, n1.2, n2.1, n2.2, hw.1, hw.2.1, hw.2.2.1, hw.2.2.2, ↓reduceIte, Bool.false_eq_true, hz.1, hz.2, List.length_append, putL_length, Nat.add_assoc]
  · obtain ⟨h1, h2⟩ := h.app
    have n1 := at_num (k := op) (z := 1) h1 (.inl rfl) (by simpa using rng.1)
    rw [putL_length] at h2
    have hw : (fmI op).w = false ∧ (fmI op).s = true ∧ (fmI op).b = false ∧ (fmI op).n = false := by rcases ho with rfl | rfl <;> decide
    have hz : b = 0 ∧ n = 0 := by rcases ho with rfl | rfl <;> (simp [rightI, fmI, firstI] at hr; omega)
    have n2 := at_num (k := aa) (z := 1) h2 (.inl rfl) (by simpa using rng.2.2.1 hw.2.1)
    simp only [Int.toNat_one, Int.reduceToNat] at n1 n2
    simp only [oneV, n1.1, n1.2, n2.1, n2.2, hw.1, hw.2.1, hw.2.2.1, hw.2.2.2, ↓reduceIte, Bool.false_eq_true, hz.1, hz.2, List.length_append, putL_length, Nat.add_assoc]
  · obtain ⟨h1, h2⟩ := h.app
    obtain ⟨h2, h3⟩ := h2.app
    have n1 := at_num (k := op) (z := 1) h1 (.inl rfl) (by simpa using rng.1)
    rw [putL_length] at h2 h3
    have hw : (fmI op).w = true ∧ (fmI op).s = false ∧ (fmI op).b = true ∧ (fmI op).n = false := by rcases ho with rfl | rfl <;> decide
    have hz : n = 0 := by rcases ho with rfl | rfl <;> (simp [rightI, fmI, firstI] at hr; omega)
    have n2 := at_num (k := aa) (z := 2) h2 (.inr rfl) (by simpa using rng.2.1 hw.1)
    rw [putL_length] at h3
    have n3 := at_num (k := b) (z := 1) h3 (.inl rfl) (by simpa using rng.2.2.2 hw.2.2.1)
    simp only [Int.toNat_one, Int.reduceToNat] at n1 n2 n3
    simp only [oneV, n1.1, n1.2, n2.1, n2.2, n3.1, n3.2, hw.1, hw.2.1, hw.2.2.1, hw.2.2.2, ↓reduceIte, Bool.false_eq_true, hz, List.length_append, putL_length, Nat.add_assoc]
  · have n1 := at_num (k := 10) (z := 1) h (.inl rfl) (by decide)
    have hz : aa = 0 ∧ b = 0 ∧ n = 0 := by simp [rightI, fmI, firstI] at hr; omega
    simp only [Int.toNat_one, Int.reduceToNat] at n1
    simp only [oneV, n1.1, n1.2, fmI, ↓reduceIte, Int.reduceEq, Bool.false_eq_true, hz.1, hz.2.1, hz.2.2, putL_length]
/-! The other way. -/
theorem nxt_inv {l : List UInt8} {a a' : Nat} {k : Int} (h : (nxt l (some a) k).2 = some a') : 0 ≤ k ∧ a' = a + k.toNat ∧ a' ≤ l.length ∧ (nxt l (some a) k).1 = some ((l.take a').drop a) := by
  simp only [nxt] at h ⊢
  split at h
  · rename_i c
    injection h with h
    rw [if_pos c]
    exact ⟨c.1, h.symm, by omega, by rw [h]⟩
  · cases h
theorem at_part {l : List UInt8} {a a' : Nat} (h : a ≤ a') (h2 : a' ≤ l.length) : AtB l a ((l.take a').drop a) := by
  refine ⟨l.take a, l.drop a', ?_, by rw [List.length_take]; omega⟩
  have e1 : l.take a ++ (l.take a').drop a = l.take a' := by
    have := List.take_append_drop a (l.take a')
    rw [List.take_take, Nat.min_eq_left h] at this
    exact this
  rw [← List.append_assoc, e1, List.take_append_drop]
theorem num_inv {l : List UInt8} {a a' : Nat} {z : Int} (hz : z = 1 ∨ z = 2) (h : nextS (some (l, a)) (szN z) = some (l, a')) :
    a' = a + z.toNat ∧ a' ≤ l.length ∧ AtB l a (putL (numV (some (l, a)) z).toNat z.toNat) ∧ 0 ≤ numV (some (l, a)) z := by
  have hs : szN z = z := by rcases hz with rfl | rfl <;> decide
  rw [hs] at h
  have h2 : (nxt l (some a) z).2 = some a' := by
    unfold nextS toP at h
    cases q : (nxt l (some a) z).2 with
    | none => simp [q] at h
    | some b => simp [q] at h; rw [h]
  obtain ⟨h3, h4, h5, h6⟩ := nxt_inv h2
  have hc : ((l.take a').drop a).length = z.toNat := by rw [List.length_drop, List.length_take]; omega
  have h8 : z.toNat ≤ 8 := by rcases hz with rfl | rfl <;> decide
  have hlt := getF_lt ((l.take a').drop a) (by omega)
  rw [hc] at hlt
  have hv : numV (some (l, a)) z = (getF ((l.take a').drop a) : Int) := by
    unfold numV nextV
    rw [hs]
    simp only [h6, Option.getD_some]
    rw [wrap_i64_id]
    have : 256 ^ z.toNat ≤ 65536 := by rcases hz with rfl | rfl <;> decide
    omega
  refine ⟨h4, h5, ?_, by rw [hv]; omega⟩
  rw [hv, Int.toNat_natCast]
  have := putL_getF ((l.take a').drop a) (by omega)
  rw [hc] at this
  rw [this]
  exact at_part (by omega) h5
theorem int_inv {l : List UInt8} {a a' : Nat} (h : intS (some (l, a)) = some (l, a')) : a' = a + (intL (intV (some (l, a)))).length ∧ a' ≤ l.length ∧ AtB l a (intL (intV (some (l, a)))) ∧ okI64 (intV (some (l, a))) := by
  unfold intS at h
  cases hr : rawV (some (l, a)) 1 with
  | none => simp [hr] at h
  | some c =>
    simp only [hr] at h
    cases hb : bad c
    rotate_left
    · simp [hb] at h
    simp only [hb, Bool.false_eq_true, ↓reduceIte] at h
    have hv : intV (some (l, a)) = sgn c := by unfold intV; simp only [hr, hb, Bool.false_eq_true, ↓reduceIte]
    obtain ⟨e1, e2, e3⟩ := oct_back c hb
    rw [hv]
    unfold intL
    rw [e1]
    unfold rawS at h
    unfold rawV at hr
    cases h1 : nextS (some (l, a)) (szN 1) with
    | none => rw [h1] at h; cases h
    | some q =>
      have hq : q.1 = l := by
        unfold nextS toP at h1
        cases w : (nxt l (some a) (szN 1)).2 with
        | none => simp [w] at h1
        | some d => simp [w] at h1; rw [← h1]
      obtain ⟨ql, b⟩ := q
      simp only at hq
      subst hq
      obtain ⟨n1, n2, n3, n4⟩ := num_inv (.inl rfl) h1
      rw [h1] at h hr
      generalize numV (some (ql, a)) 1 = k at h hr n3 n4
      have h2 : (nxt ql (some b) k).2 = some a' := by
        unfold nextS toP at h
        cases w : (nxt ql (some b) k).2 with
        | none => simp [w] at h
        | some d => simp [w] at h; rw [h]
      obtain ⟨m1, m2, m3, m4⟩ := nxt_inv h2
      have hc : c = (ql.take a').drop b := by
        have : nextV (some (ql, b)) k = some c := hr
        unfold nextV at this
        simp only [m4, Option.some.injEq] at this
        exact this.symm
      have hlen : c.length = k.toNat := by rw [hc, List.length_drop, List.length_take]; omega
      have g : AtB ql b c := by rw [hc]; exact at_part (by omega) m3
      have h1n : (1 : Int).toNat = 1 := rfl
      rw [h1n] at n1 n3
      rw [hlen]
      refine ⟨by rw [List.length_append, putL_length, hlen]; omega, m3, n3.join ?_, e2, e3⟩
      rw [putL_length, ← n1]
      exact g
theorem nextS_fst {l : List UInt8} {a : Nat} {k : Int} {q : List UInt8 × Nat} (h : nextS (some (l, a)) k = some q) : ∃ b, q = (l, b) := by
  unfold nextS toP at h
  cases w : (nxt l (some a) k).2 with
  | none => simp [w] at h
  | some d => simp [w] at h; exact ⟨d, h.symm⟩
theorem one_inv {l : List UInt8} {a a' : Nat} {x : In4} (h : oneV (some (l, a)) = (x, some (l, a'))) (hr : rightI x = true) : a' = a + (bytesI x).length ∧ a' ≤ l.length ∧ AtB l a (bytesI x) ∧ ok64 x := by
  have rng := right_rng hr
  have hk := bytesI_kinds hr
  have h1n : (1 : Int).toNat = 1 := rfl
  have h2n : (2 : Int).toNat = 2 := rfl
  unfold oneV at h
  dsimp only at h
  rw [Prod.mk.injEq] at h
  obtain ⟨hx, hs⟩ := h
  have hop : x.op = numV (some (l, a)) 1 := by rw [← hx]
  rw [← hop] at hx hs
  generalize hr1 : nextS (some (l, a)) (szN 1) = r1 at hx hs
  have g1 : r1 = none ∨ ∃ b, r1 = some (l, b) := by
    cases r1 with
    | none => exact .inl rfl
    | some q => obtain ⟨b, rfl⟩ := nextS_fst hr1; exact .inr ⟨b, rfl⟩
  rcases hk with ⟨ho, e⟩ | ⟨ho, e⟩ | ⟨ho, e⟩ | ⟨ho, e⟩ | ⟨ho, e⟩ <;> rw [e]
  · have hw : (fmI x.op).w = true ∧ (fmI x.op).s = false ∧ (fmI x.op).b = false ∧ (fmI x.op).n = true := by rw [ho]; decide
    simp only [hw.1, hw.2.1, hw.2.2.1, hw.2.2.2, ↓reduceIte, Bool.false_eq_true] at hx hs
    rcases g1 with rfl | ⟨b, rfl⟩
    · cases hs
    obtain ⟨n1, n2, n3, n4⟩ := num_inv (.inl rfl) hr1
    generalize hr2 : nextS (some (l, b)) (szN 2) = r2 at hx hs
    cases r2 with
    | none => cases hs
    | some q =>
      obtain ⟨c, rfl⟩ := nextS_fst hr2
      obtain ⟨m1, m2, m3, m4⟩ := num_inv (.inr rfl) hr2
      obtain ⟨k1, k2, k3, k4⟩ := int_inv hs
      have ea : x.a = numV (some (l, b)) 2 := by rw [← hx]
      have en : x.n = intV (some (l, c)) := by rw [← hx]
      have eb : x.b = 0 := by rw [← hx]
      rw [← hop, ho] at n3
      rw [← ea] at m3
      rw [← en] at k1 k3 k4
      rw [h1n] at n1 n3
      rw [h2n] at m1 m3
      have ra := rng.2.1 hw.1
      refine ⟨by simp only [List.length_append, putL_length]; omega, k2, n3.join (by rw [putL_length, ← n1]; exact m3.join (by rw [putL_length, ← m1]; exact k3)), ⟨by unfold okI64; omega, by unfold okI64; omega, k4⟩⟩
  · have hw : (fmI x.op).w = true ∧ (fmI x.op).s = false ∧ (fmI x.op).b = false ∧ (fmI x.op).n = false := by rcases ho with ho | ho | ho | ho <;> rw [ho] <;> decide
    simp only [hw.1, hw.2.1, hw.2.2.1, hw.2.2.2, ↓reduceIte, Bool.false_eq_true] at hx hs
    rcases g1 with rfl | ⟨b, rfl⟩
    · cases hs
    obtain ⟨n1, n2, n3, n4⟩ := num_inv (.inl rfl) hr1
    obtain ⟨m1, m2, m3, m4⟩ := num_inv (.inr rfl) hs
    have ea : x.a = numV (some (l, b)) 2 := by rw [← hx]
    have en : x.n = 0 := by rw [← hx]
    have eb : x.b = 0 := by rw [← hx]
    rw [← hop] at n3
    rw [← ea] at m3
    rw [h1n] at n1 n3
    rw [h2n] at m1 m3
    have ra := rng.2.1 hw.1
    exact ⟨by simp only [List.length_append, putL_length]; omega, m2, n3.join (by rw [putL_length, ← n1]; exact m3), ⟨by unfold okI64; omega, by unfold okI64; omega, by unfold okI64; omega⟩⟩
  · have hw : (fmI x.op).w = false ∧ (fmI x.op).s = true ∧ (fmI x.op).b = false ∧ (fmI x.op).n = false := by rcases ho with ho | ho <;> rw [ho] <;> decide
    simp only [hw.1, hw.2.1, hw.2.2.1, hw.2.2.2, ↓reduceIte, Bool.false_eq_true] at hx hs
    rcases g1 with rfl | ⟨b, rfl⟩
    · cases hs
    obtain ⟨n1, n2, n3, n4⟩ := num_inv (.inl rfl) hr1
    obtain ⟨m1, m2, m3, m4⟩ := num_inv (.inl rfl) hs
    have ea : x.a = numV (some (l, b)) 1 := by rw [← hx]
    have en : x.n = 0 := by rw [← hx]
    have eb : x.b = 0 := by rw [← hx]
    rw [← hop] at n3
    rw [← ea] at m3
    rw [h1n] at n1 n3 m1 m3
    have ra := rng.2.2.1 hw.2.1
    exact ⟨by simp only [List.length_append, putL_length]; omega, m2, n3.join (by rw [putL_length, ← n1]; exact m3), ⟨by unfold okI64; omega, by unfold okI64; omega, by unfold okI64; omega⟩⟩
  · have hw : (fmI x.op).w = true ∧ (fmI x.op).s = false ∧ (fmI x.op).b = true ∧ (fmI x.op).n = false := by rcases ho with ho | ho <;> rw [ho] <;> decide
    simp only [hw.1, hw.2.1, hw.2.2.1, hw.2.2.2, ↓reduceIte, Bool.false_eq_true] at hx hs
    rcases g1 with rfl | ⟨b, rfl⟩
    · cases hs
    obtain ⟨n1, n2, n3, n4⟩ := num_inv (.inl rfl) hr1
    generalize hr2 : nextS (some (l, b)) (szN 2) = r2 at hx hs
    cases r2 with
    | none => cases hs
    | some q =>
      obtain ⟨c, rfl⟩ := nextS_fst hr2
      obtain ⟨m1, m2, m3, m4⟩ := num_inv (.inr rfl) hr2
      obtain ⟨k1, k2, k3, k4⟩ := num_inv (.inl rfl) hs
      have ea : x.a = numV (some (l, b)) 2 := by rw [← hx]
      have en : x.n = 0 := by rw [← hx]
      have eb : x.b = numV (some (l, c)) 1 := by rw [← hx]
      rw [← hop] at n3
      rw [← ea] at m3
      rw [← eb] at k3
      rw [h1n] at n1 n3 k1 k3
      rw [h2n] at m1 m3
      have ra := rng.2.1 hw.1
      have rb := rng.2.2.2 hw.2.2.1
      exact ⟨by simp only [List.length_append, putL_length]; omega, k2, n3.join (by rw [putL_length, ← n1]; exact m3.join (by rw [putL_length, ← m1]; exact k3)), ⟨by unfold okI64; omega, by unfold okI64; omega, by unfold okI64; omega⟩⟩
  · have hw : (fmI x.op).w = false ∧ (fmI x.op).s = false ∧ (fmI x.op).b = false ∧ (fmI x.op).n = false := by rw [ho]; decide
    simp only [hw.1, hw.2.1, hw.2.2.1, hw.2.2.2, ↓reduceIte, Bool.false_eq_true] at hx hs
    subst hs
    obtain ⟨n1, n2, n3, n4⟩ := num_inv (.inl rfl) hr1
    have ea : x.a = 0 := by rw [← hx]
    have en : x.n = 0 := by rw [← hx]
    have eb : x.b = 0 := by rw [← hx]
    rw [← hop] at n3
    rw [h1n] at n1 n3
    exact ⟨by simp only [putL_length]; omega, n2, n3, ⟨by unfold okI64; omega, by unfold okI64; omega, by unfold okI64; omega⟩⟩
/-! All of them. -/
theorem getL_back {c : List UInt8} : ∀ (l : List In4) (a f : Nat) (acc : List In4), AtB c a (l.flatMap bytesI) → a + (l.flatMap bytesI).length = c.length → l.length < f → (∀ x ∈ l, rightI x = true ∧ okI64 x.n) → acc.length + l.length ≤ 6000 →
    getL f c (some a) acc = some (acc ++ l)
  | [], a, f, acc, _, he, hf, _, _ => by
    obtain ⟨f, rfl⟩ : ∃ f', f = f' + 1 := ⟨f - 1, by simp at hf; omega⟩
    rw [getL_stop (by simp only [qMore]; simp at he ⊢; omega), List.append_nil]
  | x :: r, a, f, acc, h, he, hf, hx, h6 => by
    obtain ⟨f, rfl⟩ : ∃ f', f = f' + 1 := ⟨f - 1, by simp at hf; omega⟩
    rw [List.flatMap_cons] at h he
    obtain ⟨g1, g2⟩ := h.app
    obtain ⟨hr, hn⟩ := hx x List.mem_cons_self
    have hb := one_back g1 hr hn
    have hto := oneV_to c (some a)
    have hto1 : (oneQ (c, some a)).1 = x := by rw [← hto.1]; exact congrArg Prod.fst hb
    have hto2 : (oneQ (c, some a)).2.2 = some (a + (bytesI x).length) := by
      have h1 : toP c (oneQ (c, some a)).2.2 = some (c, a + (bytesI x).length) := by rw [← hto.2.1]; exact congrArg Prod.snd hb
      unfold toP at h1
      cases w : (oneQ (c, some a)).2.2 with
      | none => rw [w] at h1; cases h1
      | some d => rw [w] at h1; simp at h1; rw [h1]
    have hbl := bytesI_len x
    simp only [List.length_cons] at hf h6
    rw [List.length_append] at he
    rw [getL_go (by simp only [qMore]; simp; omega) (by rw [hto1, hto2, hr]; simp; omega), hto1, hto2,
      getL_back r _ f _ g2 (by omega) (by omega) (fun y hy => hx y (List.mem_cons_of_mem _ hy)) (by simp only [List.length_append, List.length_cons, List.length_nil]; omega)]
    simp
theorem put_get {l : List In4} {c : List UInt8} (h : putI l = some c) (hx : ∀ x ∈ l, ok64 x) : getI c = some l := by
  unfold putI at h
  split at h
  · rename_i hc
    injection h with h
    simp only [Bool.and_eq_true, List.all_eq_true, decide_eq_true_eq] at hc
    have hl := (flat_len l).2
    subst h
    unfold getI
    rw [getL_back l 0 _ [] ⟨[], [], by simp, rfl⟩ (by omega) (by omega) (fun x hy => ⟨hc.1 x hy, (hx x hy).n⟩) (by simpa using hc.2)]
    rfl
  · cases h
theorem getL_inv {c : List UInt8} : ∀ (f a : Nat) (acc m : List In4), a ≤ c.length → getL f c (some a) acc = some m → acc.length ≤ 6000 →
    ∃ l, m = acc ++ l ∧ c.drop a = l.flatMap bytesI ∧ (∀ x ∈ l, rightI x = true ∧ ok64 x) ∧ m.length ≤ 6000
  | 0, a, acc, m, _, h, _ => by cases h
  | f + 1, a, acc, m, ha, h, h6 => by
    cases q : qMore (c, some a)
    · rw [getL_stop q] at h
      injection h with h
      subst h
      simp only [qMore, decide_eq_false_iff_not] at q
      exact ⟨[], by simp, by rw [List.drop_of_length_le (by omega)]; rfl, by simp, h6⟩
    cases q2 : ((oneQ (c, some a)).2.2.isSome && rightI (oneQ (c, some a)).1 && !(acc.length == 6000))
    · rw [getL_bad q q2] at h; cases h
    rw [getL_go q q2] at h
    simp only [Bool.and_eq_true, Bool.not_eq_true', beq_eq_false_iff_ne] at q2
    obtain ⟨⟨q3, q4⟩, q5⟩ := q2
    have hto := oneV_to c (some a)
    cases w : (oneQ (c, some a)).2.2 with
    | none => rw [w] at q3; cases q3
    | some a' =>
      rw [w] at h hto
      have hv : oneV (some (c, a)) = ((oneQ (c, some a)).1, some (c, a')) := Prod.ext hto.1 hto.2.1
      obtain ⟨k1, k2, k3, k4⟩ := one_inv hv q4
      obtain ⟨l, e1, e2, e3, e4⟩ := getL_inv f a' _ m k2 h (by simp only [List.length_append, List.length_cons, List.length_nil]; omega)
      refine ⟨(oneQ (c, some a)).1 :: l, by rw [e1]; simp, ?_, fun x hx => ?_, e4⟩
      · rw [List.flatMap_cons, ← e2, k1]
        exact k3.drop
      · rcases List.mem_cons.1 hx with rfl | hx
        · exact ⟨q4, k4⟩
        · exact e3 x hx
theorem get_put {c : List UInt8} {m : List In4} (h : getI c = some m) : putI m = some c ∧ (∀ x ∈ m, ok64 x) ∧ m.length ≤ 6000 := by
  obtain ⟨l, e1, e2, e3, e4⟩ := getL_inv _ 0 [] m (Nat.zero_le _) h (by decide)
  simp only [List.nil_append] at e1
  subst e1
  rw [List.drop_zero] at e2
  refine ⟨?_, fun x hx => (e3 x hx).2, e4⟩
  unfold putI
  rw [if_pos (by simp only [Bool.and_eq_true, List.all_eq_true, decide_eq_true_eq]; exact ⟨fun x hx => (e3 x hx).1, e4⟩), e2]
end Go.Proofs.YtnbmpdhgejppaaaDoor

/- InstrGets, InstrBack. -/
set_option linter.all false
set_option maxRecDepth 20000
namespace Go.Proofs.YtnbmpdhgejppaaaDoor
open Go.Nk

@[reducible] def eBy (l : List UInt8) : DV := .sl (bsl l)
theorem inj_By : Inj eBy := fun _ _ h => bsl_inj (by simpa [eBy] using h)
theorem fGetI_at {b : List UInt8} (h : b.length ≤ 100000) : specB1 fGetI [.sl (bsl b)] = (True, .tup [.sl (((getI b).getD []).map cIn), .bool (getI b).isSome]) := by
  rw [specB1_at]
  unfold fGetI
  rw [eq_true h]
  rfl
theorem s_ISame_self {l : List In4} (h : l.length ≤ 6000) : s_ISame [.sl (l.map cIn), .sl (l.map cIn)] = (True, .bool true) := by
  have := s_ISame_at l l
  rw [eq_true (show l.length ≤ 1000000 by omega), decide_eq_true rfl] at this
  exact this
theorem getD_getI (b : List UInt8) : ((getI b).getD []).length ≤ 6000 := by
  cases e : getI b with
  | none => simp
  | some m => exact (get_put e).2.2
noncomputable def s_lawGets : List DV → Prop × DV := spec1 eBy fun b => (True, .bool true)
theorem s_lawGets_at (b : List UInt8) : s_lawGets [.sl (bsl b)] = (True, .bool true) := spec1_at inj_By _ b
theorem ok_norialaw28_InstrGets : OkP Tryd.prog 5 s_lawGets := by
  refine OkP.mk1 (ps := [(7, s_liveI), (15, specB1 fGetI), (16, specB1 fGetI), (17, s_ISame)]) (hs := [])
    ⟨ok_live28, ok_instr_Get, ok_noriaref28_Get, ok_noriaref28_Same, trivial⟩ trivial m_norialaw28_InstrGets fun b _ => ?_
  
  by_cases q : 2000 < b.length
  · have q2 : (2000 : Int) < b.length := by omega
    (have hcondQ := Bool.and_self; refine Todo.of ?_); (repeat' (first | ((with_reducible refine Todo.to ?_); (repeat (first | (simp only [↓rP, rT, rU, eI, eU, eB, eS, eBs, eL, eA, buildCells, sepsD, sepB, hdl, dvalX, DOp.kind, dval, frameFrom, dBin, dInt, dStr, dBeq, dUn, dLoad, cellsAt, retV, retL, DR.val, fzT, fzVs, fzV, fz1, DV.immB, IntKind.bits, dCallP, viewVs, viewV, view1, capVL, capV, viewL, noMemV, noMem, elemsOf, dAppend, dAppz, dStore, DV.one, alive, freezeAt, fzLL, fzL, bRow, bU, cellsOf, setFrom, DV.isU, lenMax, lenCap, Nat.reduceEqDiff, Nat.reduceAdd, ↓reduceIte, reduceCtorEq, Nat.reduceSub, Int.reduceToNat, Int.reducePow, Nat.reducePow, Int.reduceLE, Int.reduceLT, Nat.reduceLeDiff, Nat.reduceLT, Int.reduceBEq, Int.reduceBNe, Int.reduceEq, Int.reduceNe, Int.reduceAdd, Int.reduceSub, Int.reduceMul, Int.reduceNeg, Int.reduceTDiv, Int.reduceTMod, Int.reduceMod, Int.reduceDiv, Nat.reduceMul, forall_const, implies_true, d_norialaw28_InstrGets, eBy, eIls, eIn4, eIn4s, eRows, eSs, eY, sls_len, ils_len, ils_rowsT, sls_rowsT, sls_tk0, ils_tk0, in_rowsT, in_tk0, q2, s_liveI_at, List.length_map, bsl_length , hcondQ]) | (simp (disch := omega) only [i64_id, u64_id, u8_id, getD_map'])))) | ((with_reducible refine And.intro ?_ ?_); · first | trivial | omega | (simp; done) | (simp; omega)) | ((first | ((with_reducible refine dwp_condI (t := ?_) ?_ (fun hcQ => ?_) (fun hcQ => ?_)); rotate_left; · rfl) | ((with_reducible refine dops_guardI (t := ?_) ?_ (fun hcQ => ?_) (fun hcQ => ?_)); rotate_left; · rfl)) <;> (have hn := hcQ; have hcondQ := hcQ) <;> (try simp only [decide_eq_true_eq, decide_eq_false_iff_not, beq_iff_eq, bne_iff_ne, ne_eq, Bool.and_eq_true, Bool.or_eq_true, Bool.not_eq_true, Bool.not_eq_false, beq_eq_false_iff_ne, bne_eq_false_iff_eq, Bool.not_eq_true', Bool.not_eq_false', Int.ofNat_lt, Int.ofNat_le, Bool.or_eq_false_iff, Bool.and_eq_false_imp, Decidable.not_not, gt_iff_lt, ge_iff_le] at hn) <;> (try (exfalso; omega)) <;> (refine Todo.of ?_)) | (((with_reducible refine dwp_condA ?_ ?_ ?_); · rfl) <;> (refine Todo.of ?_)))) <;> (try (first | (with_reducible rfl) | exact Nat.le_refl _ | exact Int.le_refl _ | assumption | omega))
  have q2 : ¬ (2000 : Int) < b.length := by omega
  have e := fGetI_at (b := b) (by omega)
  have es := s_ISame_self (getD_getI b)
  generalize (getI b).getD [] = l at e es
  generalize (getI b).isSome = o at e
  have ho := and_bb o
  (have hcondQ := Bool.and_self; refine Todo.of ?_); (repeat' (first | ((with_reducible refine Todo.to ?_); (repeat (first | (simp only [↓rP, rT, rU, eI, eU, eB, eS, eBs, eL, eA, buildCells, sepsD, sepB, hdl, dvalX, DOp.kind, dval, frameFrom, dBin, dInt, dStr, dBeq, dUn, dLoad, cellsAt, retV, retL, DR.val, fzT, fzVs, fzV, fz1, DV.immB, IntKind.bits, dCallP, viewVs, viewV, view1, capVL, capV, viewL, noMemV, noMem, elemsOf, dAppend, dAppz, dStore, DV.one, alive, freezeAt, fzLL, fzL, bRow, bU, cellsOf, setFrom, DV.isU, lenMax, lenCap, Nat.reduceEqDiff, Nat.reduceAdd, ↓reduceIte, reduceCtorEq, Nat.reduceSub, Int.reduceToNat, Int.reducePow, Nat.reducePow, Int.reduceLE, Int.reduceLT, Nat.reduceLeDiff, Nat.reduceLT, Int.reduceBEq, Int.reduceBNe, Int.reduceEq, Int.reduceNe, Int.reduceAdd, Int.reduceSub, Int.reduceMul, Int.reduceNeg, Int.reduceTDiv, Int.reduceTMod, Int.reduceMod, Int.reduceDiv, Nat.reduceMul, forall_const, implies_true, d_norialaw28_InstrGets, eBy, eIls, eIn4, eIn4s, eRows, eSs, eY, sls_len, ils_len, ils_rowsT, sls_rowsT, sls_tk0, ils_tk0, in_rowsT, in_tk0, q2, e, es, ho, s_liveI_at, List.length_map, bsl_length , hcondQ]) | (simp (disch := omega) only [i64_id, u64_id, u8_id, getD_map'])))) | ((with_reducible refine And.intro ?_ ?_); · first | trivial | omega | (simp; done) | (simp; omega)) | ((first | ((with_reducible refine dwp_condI (t := ?_) ?_ (fun hcQ => ?_) (fun hcQ => ?_)); rotate_left; · rfl) | ((with_reducible refine dops_guardI (t := ?_) ?_ (fun hcQ => ?_) (fun hcQ => ?_)); rotate_left; · rfl)) <;> (have hn := hcQ; have hcondQ := hcQ) <;> (try simp only [decide_eq_true_eq, decide_eq_false_iff_not, beq_iff_eq, bne_iff_ne, ne_eq, Bool.and_eq_true, Bool.or_eq_true, Bool.not_eq_true, Bool.not_eq_false, beq_eq_false_iff_ne, bne_eq_false_iff_eq, Bool.not_eq_true', Bool.not_eq_false', Int.ofNat_lt, Int.ofNat_le, Bool.or_eq_false_iff, Bool.and_eq_false_imp, Decidable.not_not, gt_iff_lt, ge_iff_le] at hn) <;> (try (exfalso; omega)) <;> (refine Todo.of ?_)) | (((with_reducible refine dwp_condA ?_ ?_ ?_); · rfl) <;> (refine Todo.of ?_)))) <;> (try (first | (with_reducible rfl) | exact Nat.le_refl _ | exact Int.le_refl _ | assumption | omega))
theorem fSame_by {b : List UInt8} (h : b.length ≤ 2000) : specB2 fSame [.sl (bsl b), .sl (bsl b)] = (True, .bool true) := by
  rw [fSame_at, eq_true (show small b ∧ small b from ⟨by unfold small; omega, by unfold small; omega⟩), beq_self_eq_true]
noncomputable def s_lawBack : List DV → Prop × DV := spec2 eIn4s eBy fun l b => (∀ x ∈ l, ok64 x, .bool true)
theorem s_lawBack_at (l : List In4) (b : List UInt8) : s_lawBack [.sl (l.map cIn), .sl (bsl b)] = (∀ x ∈ l, ok64 x, .bool true) := spec2_at inj_In4s inj_By _ l b
theorem ok_norialaw28_InstrBack : OkP Tryd.prog 6 s_lawBack := by
  refine OkP.mk2 (ps := [(7, s_liveI), (15, specB1 fGetI), (12, s_IPut), (17, s_ISame), (14, specB2 fSame)]) (hs := [])
    ⟨ok_live28, ok_instr_Get, ok_instr_Put, ok_noriaref28_Same, ok_noriaref01_Same, trivial⟩ trivial m_norialaw28_InstrBack fun l b h => ?_
  have h : ∀ x ∈ l, ok64 x := h
  
  by_cases q : 300 < l.length
  · have q2 : (300 : Int) < l.length := by omega
    (have hcondQ := Bool.and_self; refine Todo.of ?_); (repeat' (first | ((with_reducible refine Todo.to ?_); (repeat (first | (simp only [↓rP, rT, rU, eI, eU, eB, eS, eBs, eL, eA, buildCells, sepsD, sepB, hdl, dvalX, DOp.kind, dval, frameFrom, dBin, dInt, dStr, dBeq, dUn, dLoad, cellsAt, retV, retL, DR.val, fzT, fzVs, fzV, fz1, DV.immB, IntKind.bits, dCallP, viewVs, viewV, view1, capVL, capV, viewL, noMemV, noMem, elemsOf, dAppend, dAppz, dStore, DV.one, alive, freezeAt, fzLL, fzL, bRow, bU, cellsOf, setFrom, DV.isU, lenMax, lenCap, Nat.reduceEqDiff, Nat.reduceAdd, ↓reduceIte, reduceCtorEq, Nat.reduceSub, Int.reduceToNat, Int.reducePow, Nat.reducePow, Int.reduceLE, Int.reduceLT, Nat.reduceLeDiff, Nat.reduceLT, Int.reduceBEq, Int.reduceBNe, Int.reduceEq, Int.reduceNe, Int.reduceAdd, Int.reduceSub, Int.reduceMul, Int.reduceNeg, Int.reduceTDiv, Int.reduceTMod, Int.reduceMod, Int.reduceDiv, Nat.reduceMul, forall_const, implies_true, d_norialaw28_InstrBack, s_IPut_at, eBy, eIls, eIn4, eIn4s, eRows, eSs, eY, sls_len, ils_len, ils_rowsT, sls_rowsT, sls_tk0, ils_tk0, in_rowsT, in_tk0, q2, s_liveI_at, List.length_map, bsl_length , hcondQ]) | (simp (disch := omega) only [i64_id, u64_id, u8_id, getD_map'])))) | ((with_reducible refine And.intro ?_ ?_); · first | trivial | omega | (simp; done) | (simp; omega)) | ((first | ((with_reducible refine dwp_condI (t := ?_) ?_ (fun hcQ => ?_) (fun hcQ => ?_)); rotate_left; · rfl) | ((with_reducible refine dops_guardI (t := ?_) ?_ (fun hcQ => ?_) (fun hcQ => ?_)); rotate_left; · rfl)) <;> (have hn := hcQ; have hcondQ := hcQ) <;> (try simp only [decide_eq_true_eq, decide_eq_false_iff_not, beq_iff_eq, bne_iff_ne, ne_eq, Bool.and_eq_true, Bool.or_eq_true, Bool.not_eq_true, Bool.not_eq_false, beq_eq_false_iff_ne, bne_eq_false_iff_eq, Bool.not_eq_true', Bool.not_eq_false', Int.ofNat_lt, Int.ofNat_le, Bool.or_eq_false_iff, Bool.and_eq_false_imp, Decidable.not_not, gt_iff_lt, ge_iff_le] at hn) <;> (try (exfalso; omega)) <;> (refine Todo.of ?_)) | (((with_reducible refine dwp_condA ?_ ?_ ?_); · rfl) <;> (refine Todo.of ?_)))) <;> (try (first | (with_reducible rfl) | exact Nat.le_refl _ | exact Int.le_refl _ | assumption | omega))
  have q2 : ¬ (300 : Int) < l.length := by omega
  by_cases p : 2000 < b.length
  · have p2 : (2000 : Int) < b.length := by omega
    (have hcondQ := Bool.and_self; refine Todo.of ?_); (repeat' (first | ((with_reducible refine Todo.to ?_); (repeat (first | (simp only [↓rP, rT, rU, eI, eU, eB, eS, eBs, eL, eA, buildCells, sepsD, sepB, hdl, dvalX, DOp.kind, dval, frameFrom, dBin, dInt, dStr, dBeq, dUn, dLoad, cellsAt, retV, retL, DR.val, fzT, fzVs, fzV, fz1, DV.immB, IntKind.bits, dCallP, viewVs, viewV, view1, capVL, capV, viewL, noMemV, noMem, elemsOf, dAppend, dAppz, dStore, DV.one, alive, freezeAt, fzLL, fzL, bRow, bU, cellsOf, setFrom, DV.isU, lenMax, lenCap, Nat.reduceEqDiff, Nat.reduceAdd, ↓reduceIte, reduceCtorEq, Nat.reduceSub, Int.reduceToNat, Int.reducePow, Nat.reducePow, Int.reduceLE, Int.reduceLT, Nat.reduceLeDiff, Nat.reduceLT, Int.reduceBEq, Int.reduceBNe, Int.reduceEq, Int.reduceNe, Int.reduceAdd, Int.reduceSub, Int.reduceMul, Int.reduceNeg, Int.reduceTDiv, Int.reduceTMod, Int.reduceMod, Int.reduceDiv, Nat.reduceMul, forall_const, implies_true, d_norialaw28_InstrBack, s_IPut_at, eBy, eIls, eIn4, eIn4s, eRows, eSs, eY, sls_len, ils_len, ils_rowsT, sls_rowsT, sls_tk0, ils_tk0, in_rowsT, in_tk0, q2, p2, s_liveI_at, List.length_map, bsl_length , hcondQ]) | (simp (disch := omega) only [i64_id, u64_id, u8_id, getD_map'])))) | ((with_reducible refine And.intro ?_ ?_); · first | trivial | omega | (simp; done) | (simp; omega)) | ((first | ((with_reducible refine dwp_condI (t := ?_) ?_ (fun hcQ => ?_) (fun hcQ => ?_)); rotate_left; · rfl) | ((with_reducible refine dops_guardI (t := ?_) ?_ (fun hcQ => ?_) (fun hcQ => ?_)); rotate_left; · rfl)) <;> (have hn := hcQ; have hcondQ := hcQ) <;> (try simp only [decide_eq_true_eq, decide_eq_false_iff_not, beq_iff_eq, bne_iff_ne, ne_eq, Bool.and_eq_true, Bool.or_eq_true, Bool.not_eq_true, Bool.not_eq_false, beq_eq_false_iff_ne, bne_eq_false_iff_eq, Bool.not_eq_true', Bool.not_eq_false', Int.ofNat_lt, Int.ofNat_le, Bool.or_eq_false_iff, Bool.and_eq_false_imp, Decidable.not_not, gt_iff_lt, ge_iff_le] at hn) <;> (try (exfalso; omega)) <;> (refine Todo.of ?_)) | (((with_reducible refine dwp_condA ?_ ?_ ?_); · rfl) <;> (refine Todo.of ?_)))) <;> (try (first | (with_reducible rfl) | exact Nat.le_refl _ | exact Int.le_refl _ | assumption | omega))
  have p2 : ¬ (2000 : Int) < b.length := by omega
  have e1 := s_IPut_at l
  rw [eq_true (show okIns l from ⟨by omega, h⟩)] at e1
  have gb := fGetI_at (b := b) (by omega)
  have sb := fSame_by (b := b) (by omega)
  have back : ∀ m, getI b = some m → s_IPut [.sl (m.map cIn)] = (True, .tup [.sl (bsl b), .bool true]) := fun m hm => by
    obtain ⟨k1, k2, k3⟩ := get_put hm
    have := s_IPut_at m
    rw [eq_true (show okIns m from ⟨Nat.le_trans k3 (by decide), k2⟩), k1] at this
    exact this
  cases c : putI l with
  | none =>
    rw [c] at e1
    simp only [putV, Option.getD_none, Option.isSome_none] at e1
    cases g : getI b with
    | none =>
      rw [g] at gb
      simp only [Option.getD_none, Option.isSome_none, List.map_nil] at gb
      (have hcondQ := Bool.and_self; refine Todo.of ?_); (repeat' (first | ((with_reducible refine Todo.to ?_); (repeat (first | (simp only [↓rP, rT, rU, eI, eU, eB, eS, eBs, eL, eA, buildCells, sepsD, sepB, hdl, dvalX, DOp.kind, dval, frameFrom, dBin, dInt, dStr, dBeq, dUn, dLoad, cellsAt, retV, retL, DR.val, fzT, fzVs, fzV, fz1, DV.immB, IntKind.bits, dCallP, viewVs, viewV, view1, capVL, capV, viewL, noMemV, noMem, elemsOf, dAppend, dAppz, dStore, DV.one, alive, freezeAt, fzLL, fzL, bRow, bU, cellsOf, setFrom, DV.isU, lenMax, lenCap, Nat.reduceEqDiff, Nat.reduceAdd, ↓reduceIte, reduceCtorEq, Nat.reduceSub, Int.reduceToNat, Int.reducePow, Nat.reducePow, Int.reduceLE, Int.reduceLT, Nat.reduceLeDiff, Nat.reduceLT, Int.reduceBEq, Int.reduceBNe, Int.reduceEq, Int.reduceNe, Int.reduceAdd, Int.reduceSub, Int.reduceMul, Int.reduceNeg, Int.reduceTDiv, Int.reduceTMod, Int.reduceMod, Int.reduceDiv, Nat.reduceMul, forall_const, implies_true, d_norialaw28_InstrBack, s_IPut_at, eBy, eIls, eIn4, eIn4s, eRows, eSs, eY, sls_len, ils_len, ils_rowsT, sls_rowsT, sls_tk0, ils_tk0, in_rowsT, in_tk0, q2, p2, e1, gb, s_liveI_at, List.length_map, bsl_length, List.length_nil , hcondQ]) | (simp (disch := omega) only [i64_id, u64_id, u8_id, getD_map'])))) | ((with_reducible refine And.intro ?_ ?_); · first | trivial | omega | (simp; done) | (simp; omega)) | ((first | ((with_reducible refine dwp_condI (t := ?_) ?_ (fun hcQ => ?_) (fun hcQ => ?_)); rotate_left; · rfl) | ((with_reducible refine dops_guardI (t := ?_) ?_ (fun hcQ => ?_) (fun hcQ => ?_)); rotate_left; · rfl)) <;> (have hn := hcQ; have hcondQ := hcQ) <;> (try simp only [decide_eq_true_eq, decide_eq_false_iff_not, beq_iff_eq, bne_iff_ne, ne_eq, Bool.and_eq_true, Bool.or_eq_true, Bool.not_eq_true, Bool.not_eq_false, beq_eq_false_iff_ne, bne_eq_false_iff_eq, Bool.not_eq_true', Bool.not_eq_false', Int.ofNat_lt, Int.ofNat_le, Bool.or_eq_false_iff, Bool.and_eq_false_imp, Decidable.not_not, gt_iff_lt, ge_iff_le] at hn) <;> (try (exfalso; omega)) <;> (refine Todo.of ?_)) | (((with_reducible refine dwp_condA ?_ ?_ ?_); · rfl) <;> (refine Todo.of ?_)))) <;> (try (first | (with_reducible rfl) | exact Nat.le_refl _ | exact Int.le_refl _ | assumption | omega))
    | some m =>
      rw [g] at gb
      simp only [Option.getD_some, Option.isSome_some] at gb
      have eb := back m g
      (have hcondQ := Bool.and_self; refine Todo.of ?_); (repeat' (first | ((with_reducible refine Todo.to ?_); (repeat (first | (simp only [↓rP, rT, rU, eI, eU, eB, eS, eBs, eL, eA, buildCells, sepsD, sepB, hdl, dvalX, DOp.kind, dval, frameFrom, dBin, dInt, dStr, dBeq, dUn, dLoad, cellsAt, retV, retL, DR.val, fzT, fzVs, fzV, fz1, DV.immB, IntKind.bits, dCallP, viewVs, viewV, view1, capVL, capV, viewL, noMemV, noMem, elemsOf, dAppend, dAppz, dStore, DV.one, alive, freezeAt, fzLL, fzL, bRow, bU, cellsOf, setFrom, DV.isU, lenMax, lenCap, Nat.reduceEqDiff, Nat.reduceAdd, ↓reduceIte, reduceCtorEq, Nat.reduceSub, Int.reduceToNat, Int.reducePow, Nat.reducePow, Int.reduceLE, Int.reduceLT, Nat.reduceLeDiff, Nat.reduceLT, Int.reduceBEq, Int.reduceBNe, Int.reduceEq, Int.reduceNe, Int.reduceAdd, Int.reduceSub, Int.reduceMul, Int.reduceNeg, Int.reduceTDiv, Int.reduceTMod, Int.reduceMod, Int.reduceDiv, Nat.reduceMul, forall_const, implies_true, d_norialaw28_InstrBack, s_IPut_at, eBy, eIls, eIn4, eIn4s, eRows, eSs, eY, sls_len, ils_len, ils_rowsT, sls_rowsT, sls_tk0, ils_tk0, in_rowsT, in_tk0, q2, p2, e1, gb, eb, sb, s_liveI_at, List.length_map, bsl_length , hcondQ]) | (simp (disch := omega) only [i64_id, u64_id, u8_id, getD_map'])))) | ((with_reducible refine And.intro ?_ ?_); · first | trivial | omega | (simp; done) | (simp; omega)) | ((first | ((with_reducible refine dwp_condI (t := ?_) ?_ (fun hcQ => ?_) (fun hcQ => ?_)); rotate_left; · rfl) | ((with_reducible refine dops_guardI (t := ?_) ?_ (fun hcQ => ?_) (fun hcQ => ?_)); rotate_left; · rfl)) <;> (have hn := hcQ; have hcondQ := hcQ) <;> (try simp only [decide_eq_true_eq, decide_eq_false_iff_not, beq_iff_eq, bne_iff_ne, ne_eq, Bool.and_eq_true, Bool.or_eq_true, Bool.not_eq_true, Bool.not_eq_false, beq_eq_false_iff_ne, bne_eq_false_iff_eq, Bool.not_eq_true', Bool.not_eq_false', Int.ofNat_lt, Int.ofNat_le, Bool.or_eq_false_iff, Bool.and_eq_false_imp, Decidable.not_not, gt_iff_lt, ge_iff_le] at hn) <;> (try (exfalso; omega)) <;> (refine Todo.of ?_)) | (((with_reducible refine dwp_condA ?_ ?_ ?_); · rfl) <;> (refine Todo.of ?_)))) <;> (try (first | (with_reducible rfl) | exact Nat.le_refl _ | exact Int.le_refl _ | assumption | omega))
  | some d =>
    rw [c] at e1
    simp only [putV, Option.getD_some, Option.isSome_some] at e1
    have hd : d.length ≤ 100000 := by
      have := (flat_len l).1
      unfold putI at c
      split at c
      · injection c with c
        rw [← c]; omega
      · cases c
    have gd := fGetI_at hd
    rw [put_get c h] at gd
    simp only [Option.getD_some, Option.isSome_some] at gd
    have sl := s_ISame_self (l := l) (by omega)
    cases g : getI b with
    | none =>
      rw [g] at gb
      simp only [Option.getD_none, Option.isSome_none, List.map_nil] at gb
      (have hcondQ := Bool.and_self; refine Todo.of ?_); (repeat' (first | ((with_reducible refine Todo.to ?_); (repeat (first | (simp only [↓rP, rT, rU, eI, eU, eB, eS, eBs, eL, eA, buildCells, sepsD, sepB, hdl, dvalX, DOp.kind, dval, frameFrom, dBin, dInt, dStr, dBeq, dUn, dLoad, cellsAt, retV, retL, DR.val, fzT, fzVs, fzV, fz1, DV.immB, IntKind.bits, dCallP, viewVs, viewV, view1, capVL, capV, viewL, noMemV, noMem, elemsOf, dAppend, dAppz, dStore, DV.one, alive, freezeAt, fzLL, fzL, bRow, bU, cellsOf, setFrom, DV.isU, lenMax, lenCap, Nat.reduceEqDiff, Nat.reduceAdd, ↓reduceIte, reduceCtorEq, Nat.reduceSub, Int.reduceToNat, Int.reducePow, Nat.reducePow, Int.reduceLE, Int.reduceLT, Nat.reduceLeDiff, Nat.reduceLT, Int.reduceBEq, Int.reduceBNe, Int.reduceEq, Int.reduceNe, Int.reduceAdd, Int.reduceSub, Int.reduceMul, Int.reduceNeg, Int.reduceTDiv, Int.reduceTMod, Int.reduceMod, Int.reduceDiv, Nat.reduceMul, forall_const, implies_true, d_norialaw28_InstrBack, s_IPut_at, eBy, eIls, eIn4, eIn4s, eRows, eSs, eY, sls_len, ils_len, ils_rowsT, sls_rowsT, sls_tk0, ils_tk0, in_rowsT, in_tk0, q2, p2, e1, gd, sl, gb, s_liveI_at, List.length_map, bsl_length, List.length_nil , hcondQ]) | (simp (disch := omega) only [i64_id, u64_id, u8_id, getD_map'])))) | ((with_reducible refine And.intro ?_ ?_); · first | trivial | omega | (simp; done) | (simp; omega)) | ((first | ((with_reducible refine dwp_condI (t := ?_) ?_ (fun hcQ => ?_) (fun hcQ => ?_)); rotate_left; · rfl) | ((with_reducible refine dops_guardI (t := ?_) ?_ (fun hcQ => ?_) (fun hcQ => ?_)); rotate_left; · rfl)) <;> (have hn := hcQ; have hcondQ := hcQ) <;> (try simp only [decide_eq_true_eq, decide_eq_false_iff_not, beq_iff_eq, bne_iff_ne, ne_eq, Bool.and_eq_true, Bool.or_eq_true, Bool.not_eq_true, Bool.not_eq_false, beq_eq_false_iff_ne, bne_eq_false_iff_eq, Bool.not_eq_true', Bool.not_eq_false', Int.ofNat_lt, Int.ofNat_le, Bool.or_eq_false_iff, Bool.and_eq_false_imp, Decidable.not_not, gt_iff_lt, ge_iff_le] at hn) <;> (try (exfalso; omega)) <;> (refine Todo.of ?_)) | (((with_reducible refine dwp_condA ?_ ?_ ?_); · rfl) <;> (refine Todo.of ?_)))) <;> (try (first | (with_reducible rfl) | exact Nat.le_refl _ | exact Int.le_refl _ | assumption | omega))
    | some m =>
      rw [g] at gb
      simp only [Option.getD_some, Option.isSome_some] at gb
      have eb := back m g
      (have hcondQ := Bool.and_self; refine Todo.of ?_); (repeat' (first | ((with_reducible refine Todo.to ?_); (repeat (first | (simp only [↓rP, rT, rU, eI, eU, eB, eS, eBs, eL, eA, buildCells, sepsD, sepB, hdl, dvalX, DOp.kind, dval, frameFrom, dBin, dInt, dStr, dBeq, dUn, dLoad, cellsAt, retV, retL, DR.val, fzT, fzVs, fzV, fz1, DV.immB, IntKind.bits, dCallP, viewVs, viewV, view1, capVL, capV, viewL, noMemV, noMem, elemsOf, dAppend, dAppz, dStore, DV.one, alive, freezeAt, fzLL, fzL, bRow, bU, cellsOf, setFrom, DV.isU, lenMax, lenCap, Nat.reduceEqDiff, Nat.reduceAdd, ↓reduceIte, reduceCtorEq, Nat.reduceSub, Int.reduceToNat, Int.reducePow, Nat.reducePow, Int.reduceLE, Int.reduceLT, Nat.reduceLeDiff, Nat.reduceLT, Int.reduceBEq, Int.reduceBNe, Int.reduceEq, Int.reduceNe, Int.reduceAdd, Int.reduceSub, Int.reduceMul, Int.reduceNeg, Int.reduceTDiv, Int.reduceTMod, Int.reduceMod, Int.reduceDiv, Nat.reduceMul, forall_const, implies_true, d_norialaw28_InstrBack, s_IPut_at, eBy, eIls, eIn4, eIn4s, eRows, eSs, eY, sls_len, ils_len, ils_rowsT, sls_rowsT, sls_tk0, ils_tk0, in_rowsT, in_tk0, q2, p2, e1, gd, sl, gb, eb, sb, s_liveI_at, List.length_map, bsl_length , hcondQ]) | (simp (disch := omega) only [i64_id, u64_id, u8_id, getD_map'])))) | ((with_reducible refine And.intro ?_ ?_); · first | trivial | omega | (simp; done) | (simp; omega)) | ((first | ((with_reducible refine dwp_condI (t := ?_) ?_ (fun hcQ => ?_) (fun hcQ => ?_)); rotate_left; · rfl) | ((with_reducible refine dops_guardI (t := ?_) ?_ (fun hcQ => ?_) (fun hcQ => ?_)); rotate_left; · rfl)) <;> (have hn := hcQ; have hcondQ := hcQ) <;> (try simp only [decide_eq_true_eq, decide_eq_false_iff_not, beq_iff_eq, bne_iff_ne, ne_eq, Bool.and_eq_true, Bool.or_eq_true, Bool.not_eq_true, Bool.not_eq_false, beq_eq_false_iff_ne, bne_eq_false_iff_eq, Bool.not_eq_true', Bool.not_eq_false', Int.ofNat_lt, Int.ofNat_le, Bool.or_eq_false_iff, Bool.and_eq_false_imp, Decidable.not_not, gt_iff_lt, ge_iff_le] at hn) <;> (try (exfalso; omega)) <;> (refine Todo.of ?_)) | (((with_reducible refine dwp_condA ?_ ?_ ?_); · rfl) <;> (refine Todo.of ?_)))) <;> (try (first | (with_reducible rfl) | exact Nat.le_refl _ | exact Int.le_refl _ | assumption | omega))
theorem instrGets_tells (dvs : List DV) (h : HasAll Tryd.prog [28] dvs) : TellsP Tryd.prog 5 dvs (.bool true) := by
  obtain ⟨d1, r, rfl, h1, rfl⟩ := h
  obtain ⟨b, rfl, _⟩ := HasV_bsl (by kernel_rfl) h1
  have e := s_lawGets_at b
  have := (ok_norialaw28_InstrGets _ (by rw [e]; trivial)).2
  rw [e] at this
  exact this
theorem instrBack_tells (dvs : List DV) (h : HasAll Tryd.prog [22, 28] dvs) : TellsP Tryd.prog 6 dvs (.bool true) := by
  obtain ⟨d1, r, rfl, h1, d2, r', rfl, h2, rfl⟩ := h
  obtain ⟨l, ha, hw⟩ := HasV_one (by kernel_rfl) rfl reads_In4s h1
  injection ha with ha
  subst ha
  obtain ⟨b, rfl, _⟩ := HasV_bsl (by kernel_rfl) h2
  have e := s_lawBack_at l b
  have := (ok_norialaw28_InstrBack _ (by rw [e]; exact hw)).2
  rw [e] at this
  exact this
end Go.Proofs.YtnbmpdhgejppaaaDoor

