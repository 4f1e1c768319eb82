/- The reference's run tells what the program's does. -/
import Derived.Test.YtjgefhgkinocmaaVm8
set_option linter.all false
set_option maxRecDepth 20000
namespace Go.Proofs.Ytjgefhgkinocmaa
open Go.Nk

theorem pushE_nn (v : MS) : 0 ≤ pushE v := by unfold pushE; split <;> decide
theorem unF_nn (op a : Int) : 0 ≤ (unF op a).2 := by unfold unF; repeat' split
                                                     all_goals (try simp only) <;> omega
theorem binF_nn (op a b : Int) : 0 ≤ (binF op a b).2 := by unfold binF numF; repeat' split
                                                           all_goals (try simp only) <;> omega
theorem doR_nn (v : MS) (x : Ins) : 0 ≤ (doR v x).1 := by
  have h1 : ∀ v, 0 ≤ (moveR v x).1 := fun v => by
    unfold moveR; repeat' split
    all_goals first | (simp only; omega) | exact pushE_nn _
  have h2 : ∀ v, 0 ≤ (getR v x).1 := fun v => by
    unfold getR; repeat' split
    all_goals first | (simp only; omega) | exact pushE_nn _
  have h3 : ∀ v, 0 ≤ (putR v x).1 := fun v => by
    unfold putR; repeat' split
    all_goals first | (simp only; omega) | exact pushE_nn _
  have h4 : ∀ v, 0 ≤ (operR v x).1 := fun v => by
    by_cases c : x.o = 4
    · simp only [operR, operV, operS, c, ↓reduceIte]; repeat' split
      all_goals first | (simp only; omega) | exact pushE_nn _ | exact unF_nn _ _
    · simp only [operR, operV, operS, c, ↓reduceIte]; repeat' split
      all_goals first | (simp only; omega) | exact pushE_nn _ | exact binF_nn _ _ _
  unfold doR
  dsimp only
  repeat' split
  all_goals first | (simp only; omega) | exact pushE_nn _ | exact h1 _ | exact h2 _ | exact h3 _ | exact h4 _

theorem okR_of {v : MS} {r : RS} (h : okM v) (s : Sim v r) (hp : r.pc ≤ 1000000000) : okR r :=
  ⟨by have := sim_len h s; have := h.h1; omega, by rw [s.2.2]; exact h.p0, hp, by rw [s.1]; exact h.c, fun x hx => h.ri x (by rw [s.2.1] at hx; exact List.mem_of_mem_take hx), fun x hx => h.ci x (by rw [s.1] at hx; exact hx)⟩

/-- What is so ahead of each round. -/
def InvQ (code : List Ins) (fuel : Int) (R : Int × MS) (r : RS) (used : Int) : Prop :=
  0 ≤ used ∧ used ≤ 1000000 ∧
  ((r.e = 0 ∧ ∃ v, okM v ∧ Sim v r ∧ v.used = used ∧ v.pc ≤ 1000000 ∧ runN code (fuel - used).toNat v = R) ∨
   (r.e ≠ 0 ∧ R.2.used = used ∧ (r.e = -1 → R.1 = 0 ∧ r.M = R.2.cells) ∧ (r.e ≠ -1 → R.1 = r.e)))

theorem s_qdo_at {r : RS} (x : Ins) : s_qdo [.ptr 1 1 0 0, .agg (cIns x)] [⟨.imm, 1, il r.M⟩, oRS 0 r] = ⟨okR r ∧ r.pc < 1000000000 ∧ rightF x = true, .tup [], [⟨.imm, 1, il (qdoS r x).M⟩, oRS 0 (qdoS r x)]⟩ := by
  have hi : TR.is [⟨.imm, 1, il r.M⟩, oRS 0 r] 1 0 r := ⟨rfl, rfl, by decide⟩
  exact specT_at TR_ok injL_ins _ hi x

theorem ok_refRun : OkP Try.prog 15 s_vm := by
  refine OkP.mk3 (ps := [(20, s_right)]) (hs := [(21, s_qdo)]) ⟨ok_ref_right, trivial⟩ ⟨ok_qdo, trivial⟩ m_noriaref30_Run fun code cells fuel h => ?_
  have hk := okM_0 h.c h.ci
  have hc : cells.length ≤ lenMax := by have := h.c; unfold lenMax; omega
  have rows := il_rows cells
  have hf := h.fuel
  have hl := h.len
  obtain ⟨R, eR⟩ : ∃ R, R = runN code fuel.toNat (m0 cells) := ⟨_, rfl⟩
  have eF : fVm code cells fuel = (okVm code cells fuel, .tup [.sl (il (if R.1 ≠ 0 then cells else R.2.cells)), .int .i64 R.2.used, .int .i64 R.1]) := by
    unfold fVm vmF
    rw [← eR]
    by_cases c : R.1 = 0 <;> simp [c]
  rw [eF]
  (have hcondQ := Bool.and_self; refine Todo.of ?_; repeat' (first | ((with_reducible refine Todo.to ?_); try simp only [↓rP, rT, rU, eI, eU, eB, eS, eBs, eL, eA, buildCells, sepsD, sepB, hdl, dvalX, DOp.kind, dval, frameFrom, dBin, dInt, dStr, dBeq, dUn, dLoad, cellsAt, retV, retL, DR.val, fzT, fzVs, fzV, fz1, DV.immB, IntKind.bits, dCallP, viewVs, viewV, view1, capVL, capV, viewL, noMemV, noMem, elemsOf, dAppend, dAppz, dStore, DV.one, alive, freezeAt, fzLL, fzL, bRow, bU, cellsOf, setFrom, DV.isU, lenMax, lenCap, Nat.reduceEqDiff, Nat.reduceAdd, ↓reduceIte, reduceCtorEq, Nat.reduceSub, Int.reduceToNat, Int.reducePow, Nat.reducePow, Int.reduceLE, Int.reduceLT, Nat.reduceLeDiff, Nat.reduceLT, Int.reduceBEq, Int.reduceBNe, Int.reduceEq, Int.reduceNe, Int.reduceAdd, Int.reduceSub, Int.reduceMul, Int.reduceNeg, Int.reduceTDiv, Int.reduceTMod, Int.reduceMod, Int.reduceDiv, Nat.reduceMul, forall_const, implies_true, d_noriaref30_Run, eIl, eCode, il_len, hc, rows , hcondQ]) | ((with_reducible refine And.intro ?_ ?_); · first | trivial | exact ⟨rows, hc⟩ | omega | (simp; done) | (simp; omega)) | ((first | ((with_reducible refine dwp_condI (t := ?_) ?_ (fun hcQ => ?_) (fun hcQ => ?_)); rotate_left; · rfl) | ((with_reducible refine dops_guardI (t := ?_) ?_ (fun hcQ => ?_) (fun hcQ => ?_)); rotate_left; · rfl)) <;> (have hn := hcQ; have hcondQ := hcQ) <;> (try simp only [decide_eq_true_eq, decide_eq_false_iff_not, beq_iff_eq, bne_iff_ne, ne_eq, Bool.and_eq_true, Bool.or_eq_true, Bool.not_eq_true, Bool.not_eq_false, beq_eq_false_iff_ne, bne_eq_false_iff_eq, Bool.not_eq_true', Bool.not_eq_false', Int.ofNat_lt, Int.ofNat_le, Bool.or_eq_false_iff, Bool.and_eq_false_imp, Decidable.not_not, gt_iff_lt, ge_iff_le] at hn) <;> (try (exfalso; omega)) <;> (refine Todo.of ?_)) | (((with_reducible refine dwp_condA ?_ ?_ ?_); · rfl) <;> (refine Todo.of ?_))))
  refine dwp_loop (fun x : RS × Int => ⟨[(0, .sl (code.map cIns)), (1, .sl (il cells)), (2, .int .i64 fuel), (9, .ptr 1 1 0 0), (10, .int .i64 x.2)], [⟨.imm, 1, il x.1.M⟩, oRS 0 x.1]⟩)
    (fun x => InvQ code fuel R x.1 x.2) (fun x => (fuel - x.2).toNat) (⟨cells, [], 0, 0⟩, 0) (by exact Nat.zero_le _) ?_ ⟨Int.le_refl 0, by simp only; omega, .inl ⟨rfl, m0 cells, hk, ⟨rfl, rfl, rfl⟩, rfl, by simp [m0], by rw [eR, Int.sub_zero]⟩⟩ fun x hx => ?_
  · simp only [cut_some, cut_none, List.map_cons, List.map_nil, get_cons, Nk.get_nil, Nat.reduceEqDiff, ↓reduceIte, Nat.succ_ne_self, DV.cut, DV.inB, DObj.cut, List.take_nil, List.take_zero, if_true, Nat.zero_ne_one, Nat.one_ne_zero, DV.inBL, Bool.and_true, Bool.true_and, reduceCtorEq, Nat.zero_lt_one, decide_true, decide_false, Nat.reduceLT, List.take_succ_cons]
    rfl
  obtain ⟨r, used⟩ := x
  obtain ⟨u0, u1, hI⟩ := hx
  simp only at u0 u1 hI ⊢
  rcases hI with ⟨he, v, hv, hs, hu, hp, hR⟩ | ⟨he, hu, h1, h2⟩
  rotate_left
  · have tk : (il R.2.cells).take R.2.cells.length = il R.2.cells := List.take_of_length_le (by rw [il_len]; exact Nat.le_refl _)
    by_cases c : r.e = -1
    · obtain ⟨q1, q2⟩ := h1 c
      have c1 : (r.e == 0) = false := by simp [he]
      have c2 : (r.e != -1) = false := by simp [c]
      (have hcondQ := Bool.and_self; refine Todo.of ?_; repeat' (first | ((with_reducible refine Todo.to ?_); try simp only [↓rP, rT, rU, eI, eU, eB, eS, eBs, eL, eA, buildCells, sepsD, sepB, hdl, dvalX, DOp.kind, dval, frameFrom, dBin, dInt, dStr, dBeq, dUn, dLoad, cellsAt, retV, retL, DR.val, fzT, fzVs, fzV, fz1, DV.immB, IntKind.bits, dCallP, viewVs, viewV, view1, capVL, capV, viewL, noMemV, noMem, elemsOf, dAppend, dAppz, dStore, DV.one, alive, freezeAt, fzLL, fzL, bRow, bU, cellsOf, setFrom, DV.isU, lenMax, lenCap, Nat.reduceEqDiff, Nat.reduceAdd, ↓reduceIte, reduceCtorEq, Nat.reduceSub, Int.reduceToNat, Int.reducePow, Nat.reducePow, Int.reduceLE, Int.reduceLT, Nat.reduceLeDiff, Nat.reduceLT, Int.reduceBEq, Int.reduceBNe, Int.reduceEq, Int.reduceNe, Int.reduceAdd, Int.reduceSub, Int.reduceMul, Int.reduceNeg, Int.reduceTDiv, Int.reduceTMod, Int.reduceMod, Int.reduceDiv, Nat.reduceMul, forall_const, implies_true, d_noriaref30_Run, c1, c2, il_len, hcondQ]) | ((with_reducible refine And.intro ?_ ?_); · first | trivial | omega | (simp; done) | (simp; omega)) | ((first | ((with_reducible refine dwp_condI (t := ?_) ?_ (fun hcQ => ?_) (fun hcQ => ?_)); rotate_left; · rfl) | ((with_reducible refine dops_guardI (t := ?_) ?_ (fun hcQ => ?_) (fun hcQ => ?_)); rotate_left; · rfl)) <;> (have hn := hcQ; have hcondQ := hcQ) <;> (try simp only [decide_eq_true_eq, decide_eq_false_iff_not, beq_iff_eq, bne_iff_ne, ne_eq, Bool.and_eq_true, Bool.or_eq_true, Bool.not_eq_true, Bool.not_eq_false, beq_eq_false_iff_ne, bne_eq_false_iff_eq, Bool.not_eq_true', Bool.not_eq_false', Int.ofNat_lt, Int.ofNat_le, Bool.or_eq_false_iff, Bool.and_eq_false_imp, Decidable.not_not, gt_iff_lt, ge_iff_le] at hn) <;> (try (exfalso; omega)) <;> (refine Todo.of ?_)) | (((with_reducible refine dwp_condA ?_ ?_ ?_); · rfl) <;> (refine Todo.of ?_))))
      refine ⟨?_, hu.symm, q1.symm⟩
      rw [if_neg (by simp [q1]), q2]
      exact congrArg DV.sl tk
    · have q1 := h2 c
      have c1 : (r.e == 0) = false := by simp [he]
      have c2 : (r.e != -1) = true := by simp [c]
      (have hcondQ := Bool.and_self; refine Todo.of ?_; repeat' (first | ((with_reducible refine Todo.to ?_); try simp only [↓rP, rT, rU, eI, eU, eB, eS, eBs, eL, eA, buildCells, sepsD, sepB, hdl, dvalX, DOp.kind, dval, frameFrom, dBin, dInt, dStr, dBeq, dUn, dLoad, cellsAt, retV, retL, DR.val, fzT, fzVs, fzV, fz1, DV.immB, IntKind.bits, dCallP, viewVs, viewV, view1, capVL, capV, viewL, noMemV, noMem, elemsOf, dAppend, dAppz, dStore, DV.one, alive, freezeAt, fzLL, fzL, bRow, bU, cellsOf, setFrom, DV.isU, lenMax, lenCap, Nat.reduceEqDiff, Nat.reduceAdd, ↓reduceIte, reduceCtorEq, Nat.reduceSub, Int.reduceToNat, Int.reducePow, Nat.reducePow, Int.reduceLE, Int.reduceLT, Nat.reduceLeDiff, Nat.reduceLT, Int.reduceBEq, Int.reduceBNe, Int.reduceEq, Int.reduceNe, Int.reduceAdd, Int.reduceSub, Int.reduceMul, Int.reduceNeg, Int.reduceTDiv, Int.reduceTMod, Int.reduceMod, Int.reduceDiv, Nat.reduceMul, forall_const, implies_true, d_noriaref30_Run, c1, c2, il_len, hcondQ]) | ((with_reducible refine And.intro ?_ ?_); · first | trivial | omega | (simp; done) | (simp; omega)) | ((first | ((with_reducible refine dwp_condI (t := ?_) ?_ (fun hcQ => ?_) (fun hcQ => ?_)); rotate_left; · rfl) | ((with_reducible refine dops_guardI (t := ?_) ?_ (fun hcQ => ?_) (fun hcQ => ?_)); rotate_left; · rfl)) <;> (have hn := hcQ; have hcondQ := hcQ) <;> (try simp only [decide_eq_true_eq, decide_eq_false_iff_not, beq_iff_eq, bne_iff_ne, ne_eq, Bool.and_eq_true, Bool.or_eq_true, Bool.not_eq_true, Bool.not_eq_false, beq_eq_false_iff_ne, bne_eq_false_iff_eq, Bool.not_eq_true', Bool.not_eq_false', Int.ofNat_lt, Int.ofNat_le, Bool.or_eq_false_iff, Bool.and_eq_false_imp, Decidable.not_not, gt_iff_lt, ge_iff_le] at hn) <;> (try (exfalso; omega)) <;> (refine Todo.of ?_)) | (((with_reducible refine dwp_condA ?_ ?_ ?_); · rfl) <;> (refine Todo.of ?_))))
      exact ⟨by rw [if_pos (by rw [q1]; exact he)], hu.symm, q1.symm⟩
  have c1 : (r.e == 0) = true := by simp [he]
  have p0 := hv.p0
  have hpc := hs.2.2
  by_cases c2 : (code.length : Int) ≤ r.pc
  · have e : R = (13, v) := by rw [← hR]; rw [hpc] at c2; cases (fuel - used).toNat <;> simp [runN, c2]
    (have hcondQ := Bool.and_self; refine Todo.of ?_; repeat' (first | ((with_reducible refine Todo.to ?_); try simp only [↓rP, rT, rU, eI, eU, eB, eS, eBs, eL, eA, buildCells, sepsD, sepB, hdl, dvalX, DOp.kind, dval, frameFrom, dBin, dInt, dStr, dBeq, dUn, dLoad, cellsAt, retV, retL, DR.val, fzT, fzVs, fzV, fz1, DV.immB, IntKind.bits, dCallP, viewVs, viewV, view1, capVL, capV, viewL, noMemV, noMem, elemsOf, dAppend, dAppz, dStore, DV.one, alive, freezeAt, fzLL, fzL, bRow, bU, cellsOf, setFrom, DV.isU, lenMax, lenCap, Nat.reduceEqDiff, Nat.reduceAdd, ↓reduceIte, reduceCtorEq, Nat.reduceSub, Int.reduceToNat, Int.reducePow, Nat.reducePow, Int.reduceLE, Int.reduceLT, Nat.reduceLeDiff, Nat.reduceLT, Int.reduceBEq, Int.reduceBNe, Int.reduceEq, Int.reduceNe, Int.reduceAdd, Int.reduceSub, Int.reduceMul, Int.reduceNeg, Int.reduceTDiv, Int.reduceTMod, Int.reduceMod, Int.reduceDiv, Nat.reduceMul, forall_const, implies_true, d_noriaref30_Run, c1, c2, il_len, List.length_map, hcondQ]) | ((with_reducible refine And.intro ?_ ?_); · first | trivial | omega | (simp; done) | (simp; omega)) | ((first | ((with_reducible refine dwp_condI (t := ?_) ?_ (fun hcQ => ?_) (fun hcQ => ?_)); rotate_left; · rfl) | ((with_reducible refine dops_guardI (t := ?_) ?_ (fun hcQ => ?_) (fun hcQ => ?_)); rotate_left; · rfl)) <;> (have hn := hcQ; have hcondQ := hcQ) <;> (try simp only [decide_eq_true_eq, decide_eq_false_iff_not, beq_iff_eq, bne_iff_ne, ne_eq, Bool.and_eq_true, Bool.or_eq_true, Bool.not_eq_true, Bool.not_eq_false, beq_eq_false_iff_ne, bne_eq_false_iff_eq, Bool.not_eq_true', Bool.not_eq_false', Int.ofNat_lt, Int.ofNat_le, Bool.or_eq_false_iff, Bool.and_eq_false_imp, Decidable.not_not, gt_iff_lt, ge_iff_le] at hn) <;> (try (exfalso; omega)) <;> (refine Todo.of ?_)) | (((with_reducible refine dwp_condA ?_ ?_ ?_); · rfl) <;> (refine Todo.of ?_))))
    rw [e]
    exact ⟨rfl, hu.symm, rfl⟩
  by_cases c3 : fuel ≤ used
  · have e0 : (fuel - used).toNat = 0 := by omega
    have e : R = (17, v) := by rw [← hR, e0]; rw [hpc] at c2; simp [runN, c2]
    (have hcondQ := Bool.and_self; refine Todo.of ?_; repeat' (first | ((with_reducible refine Todo.to ?_); try simp only [↓rP, rT, rU, eI, eU, eB, eS, eBs, eL, eA, buildCells, sepsD, sepB, hdl, dvalX, DOp.kind, dval, frameFrom, dBin, dInt, dStr, dBeq, dUn, dLoad, cellsAt, retV, retL, DR.val, fzT, fzVs, fzV, fz1, DV.immB, IntKind.bits, dCallP, viewVs, viewV, view1, capVL, capV, viewL, noMemV, noMem, elemsOf, dAppend, dAppz, dStore, DV.one, alive, freezeAt, fzLL, fzL, bRow, bU, cellsOf, setFrom, DV.isU, lenMax, lenCap, Nat.reduceEqDiff, Nat.reduceAdd, ↓reduceIte, reduceCtorEq, Nat.reduceSub, Int.reduceToNat, Int.reducePow, Nat.reducePow, Int.reduceLE, Int.reduceLT, Nat.reduceLeDiff, Nat.reduceLT, Int.reduceBEq, Int.reduceBNe, Int.reduceEq, Int.reduceNe, Int.reduceAdd, Int.reduceSub, Int.reduceMul, Int.reduceNeg, Int.reduceTDiv, Int.reduceTMod, Int.reduceMod, Int.reduceDiv, Nat.reduceMul, forall_const, implies_true, d_noriaref30_Run, c1, c2, c3, il_len, List.length_map, hcondQ]) | ((with_reducible refine And.intro ?_ ?_); · first | trivial | omega | (simp; done) | (simp; omega)) | ((first | ((with_reducible refine dwp_condI (t := ?_) ?_ (fun hcQ => ?_) (fun hcQ => ?_)); rotate_left; · rfl) | ((with_reducible refine dops_guardI (t := ?_) ?_ (fun hcQ => ?_) (fun hcQ => ?_)); rotate_left; · rfl)) <;> (have hn := hcQ; have hcondQ := hcQ) <;> (try simp only [decide_eq_true_eq, decide_eq_false_iff_not, beq_iff_eq, bne_iff_ne, ne_eq, Bool.and_eq_true, Bool.or_eq_true, Bool.not_eq_true, Bool.not_eq_false, beq_eq_false_iff_ne, bne_eq_false_iff_eq, Bool.not_eq_true', Bool.not_eq_false', Int.ofNat_lt, Int.ofNat_le, Bool.or_eq_false_iff, Bool.and_eq_false_imp, Decidable.not_not, gt_iff_lt, ge_iff_le] at hn) <;> (try (exfalso; omega)) <;> (refine Todo.of ?_)) | (((with_reducible refine dwp_condA ?_ ?_ ?_); · rfl) <;> (refine Todo.of ?_))))
    rw [e]
    exact ⟨rfl, hu.symm, rfl⟩
  obtain ⟨q, hq⟩ : ∃ q, (fuel - used).toNat = q + 1 := ⟨(fuel - used).toNat - 1, by omega⟩
  have hx : r.pc.toNat < code.length := by omega
  have hrow := getD_map cIns code r.pc.toNat hx
  have w : IntKind.i64.wrap (used + 1) = used + 1 := wrap_i64_id (by omega)
  have hk1 : okM { v with used := v.used + 1 } := okM_used hv (by omega) (by omega)
  have hs1 : Sim { v with used := v.used + 1 } r := hs
  have hin : in64 (code.getD r.pc.toNat default).n := h.ins _ (by rw [List.getD_eq_getElem?_getD, List.getElem?_eq_getElem hx]; exact List.getElem_mem hx)
  have hX' : code.getD v.pc.toNat default = code.getD r.pc.toNat default := by rw [hpc]
  rw [hq] at hR
  have c2' : ¬ (code.length : Int) ≤ v.pc := by rw [← hpc]; exact c2
  simp only [runN, c2', if_false, hX'] at hR
  have ha := after_do (x := code.getD r.pc.toNat default) hk1 (by simp only; omega) hin
  have hd := fun hr => step_do hk1 (by simp only; omega) hs1 (code.getD r.pc.toNat default) hr
  have hnn := doR_nn { v with used := v.used + 1 } (code.getD r.pc.toNat default)
  have hb : 0 ≤ r.pc ∧ r.pc < (code.length : Int) := by omega
  generalize code.getD r.pc.toNat default = X at hrow ha hR hin hd hnn
  have e1 := s_right_at X
  by_cases hr : rightF X = true
  rotate_left
  · have hr' : rightF X = false := by simpa using hr
    have e : R = (13, { v with used := v.used + 1 }) := by
      rw [← hR]; simp [doR, hr']
    (have hcondQ := Bool.and_self; refine Todo.of ?_; repeat' (first | ((with_reducible refine Todo.to ?_); try simp only [↓rP, rT, rU, eI, eU, eB, eS, eBs, eL, eA, buildCells, sepsD, sepB, hdl, dvalX, DOp.kind, dval, frameFrom, dBin, dInt, dStr, dBeq, dUn, dLoad, cellsAt, retV, retL, DR.val, fzT, fzVs, fzV, fz1, DV.immB, IntKind.bits, dCallP, viewVs, viewV, view1, capVL, capV, viewL, noMemV, noMem, elemsOf, dAppend, dAppz, dStore, DV.one, alive, freezeAt, fzLL, fzL, bRow, bU, cellsOf, setFrom, DV.isU, lenMax, lenCap, Nat.reduceEqDiff, Nat.reduceAdd, ↓reduceIte, reduceCtorEq, Nat.reduceSub, Int.reduceToNat, Int.reducePow, Nat.reducePow, Int.reduceLE, Int.reduceLT, Nat.reduceLeDiff, Nat.reduceLT, Int.reduceBEq, Int.reduceBNe, Int.reduceEq, Int.reduceNe, Int.reduceAdd, Int.reduceSub, Int.reduceMul, Int.reduceNeg, Int.reduceTDiv, Int.reduceTMod, Int.reduceMod, Int.reduceDiv, Nat.reduceMul, forall_const, implies_true, d_noriaref30_Run, c1, c2, c3, il_len, List.length_map, hb, hrow, w, e1, hr', hcondQ]) | ((with_reducible refine And.intro ?_ ?_); · first | trivial | omega | (simp; done) | (simp; omega)) | ((first | ((with_reducible refine dwp_condI (t := ?_) ?_ (fun hcQ => ?_) (fun hcQ => ?_)); rotate_left; · rfl) | ((with_reducible refine dops_guardI (t := ?_) ?_ (fun hcQ => ?_) (fun hcQ => ?_)); rotate_left; · rfl)) <;> (have hn := hcQ; have hcondQ := hcQ) <;> (try simp only [decide_eq_true_eq, decide_eq_false_iff_not, beq_iff_eq, bne_iff_ne, ne_eq, Bool.and_eq_true, Bool.or_eq_true, Bool.not_eq_true, Bool.not_eq_false, beq_eq_false_iff_ne, bne_eq_false_iff_eq, Bool.not_eq_true', Bool.not_eq_false', Int.ofNat_lt, Int.ofNat_le, Bool.or_eq_false_iff, Bool.and_eq_false_imp, Decidable.not_not, gt_iff_lt, ge_iff_le] at hn) <;> (try (exfalso; omega)) <;> (refine Todo.of ?_)) | (((with_reducible refine dwp_condA ?_ ?_ ?_); · rfl) <;> (refine Todo.of ?_))))
    rw [e]
    exact ⟨rfl, by simp only [hu], rfl⟩
  have e2 := s_qdo_at (r := r) X
  rw [eq_true (show okR r ∧ r.pc < 1000000000 ∧ rightF X = true from ⟨okR_of hv hs (by omega), by omega, hr⟩)] at e2
  have d1 := hd hr
  have hu2 := ha.used
  simp only at hu2
  (have hcondQ := Bool.and_self; refine Todo.of ?_; repeat' (first | ((with_reducible refine Todo.to ?_); try simp only [↓rP, rT, rU, eI, eU, eB, eS, eBs, eL, eA, buildCells, sepsD, sepB, hdl, dvalX, DOp.kind, dval, frameFrom, dBin, dInt, dStr, dBeq, dUn, dLoad, cellsAt, retV, retL, DR.val, fzT, fzVs, fzV, fz1, DV.immB, IntKind.bits, dCallP, viewVs, viewV, view1, capVL, capV, viewL, noMemV, noMem, elemsOf, dAppend, dAppz, dStore, DV.one, alive, freezeAt, fzLL, fzL, bRow, bU, cellsOf, setFrom, DV.isU, lenMax, lenCap, Nat.reduceEqDiff, Nat.reduceAdd, ↓reduceIte, reduceCtorEq, Nat.reduceSub, Int.reduceToNat, Int.reducePow, Nat.reducePow, Int.reduceLE, Int.reduceLT, Nat.reduceLeDiff, Nat.reduceLT, Int.reduceBEq, Int.reduceBNe, Int.reduceEq, Int.reduceNe, Int.reduceAdd, Int.reduceSub, Int.reduceMul, Int.reduceNeg, Int.reduceTDiv, Int.reduceTMod, Int.reduceMod, Int.reduceDiv, Nat.reduceMul, forall_const, implies_true, d_noriaref30_Run, c1, c2, c3, il_len, List.length_map, hb, hrow, w, e1, e2, hr, hcondQ]) | ((with_reducible refine And.intro ?_ ?_); · first | trivial | omega | (simp; done) | (simp; omega)) | ((first | ((with_reducible refine dwp_condI (t := ?_) ?_ (fun hcQ => ?_) (fun hcQ => ?_)); rotate_left; · rfl) | ((with_reducible refine dops_guardI (t := ?_) ?_ (fun hcQ => ?_) (fun hcQ => ?_)); rotate_left; · rfl)) <;> (have hn := hcQ; have hcondQ := hcQ) <;> (try simp only [decide_eq_true_eq, decide_eq_false_iff_not, beq_iff_eq, bne_iff_ne, ne_eq, Bool.and_eq_true, Bool.or_eq_true, Bool.not_eq_true, Bool.not_eq_false, beq_eq_false_iff_ne, bne_eq_false_iff_eq, Bool.not_eq_true', Bool.not_eq_false', Int.ofNat_lt, Int.ofNat_le, Bool.or_eq_false_iff, Bool.and_eq_false_imp, Decidable.not_not, gt_iff_lt, ge_iff_le] at hn) <;> (try (exfalso; omega)) <;> (refine Todo.of ?_)) | (((with_reducible refine dwp_condA ?_ ?_ ?_); · rfl) <;> (refine Todo.of ?_))))
  refine ⟨(qdoS r X, used + 1), ?_, ⟨by simp only; omega, by simp only; omega, ?_⟩, by simp only; omega⟩
  · simp only [cut_some, cut_none, List.map_cons, List.map_nil, get_cons, Nk.get_nil, Nat.reduceEqDiff, ↓reduceIte, Nat.succ_ne_self, DV.cut, DV.inB, DObj.cut, List.take_nil, List.take_zero, if_true, Nat.zero_ne_one, Nat.one_ne_zero, DV.inBL, Bool.and_true, Bool.true_and, reduceCtorEq, Nat.zero_lt_one, decide_true, decide_false, Nat.reduceLT, List.take_succ_cons]
  simp only
  by_cases z : (doR { v with used := v.used + 1 } X).1 = 0
  · obtain ⟨z1, z2, z3⟩ := d1.2 z
    by_cases o : X.o = 10
    · rw [if_pos (.inr o)] at hR
      refine .inr ⟨by rw [z3 o]; decide, by rw [← hR, hu2, hu], fun _ => ⟨by rw [← hR]; exact z, by rw [← hR]; exact z1⟩, fun q => absurd (z3 o) q⟩
    · rw [if_neg (by rintro (q | q); exact q z; exact o q)] at hR
      refine .inl ⟨(z2 o).2.trans he, _, ha.ok, (z2 o).1, by rw [hu2, hu], ha.pc, ?_⟩
      rw [show (fuel - (used + 1)).toNat = q by omega]
      exact hR
  · rw [if_pos (.inl z)] at hR
    have z1 := d1.1 z
    refine .inr ⟨by rw [z1]; exact z, by rw [← hR, hu2, hu], fun q => ?_, fun _ => by rw [← hR]; exact z1.symm⟩
    rw [z1] at q
    omega
end Go.Proofs.Ytjgefhgkinocmaa
