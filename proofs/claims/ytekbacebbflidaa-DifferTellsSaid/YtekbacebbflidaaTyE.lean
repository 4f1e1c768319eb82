/- Which values a type has. -/
import Derived.Test.YtekbacebbflidaaTyD
import Derived.Test.YtekbacebbflidaaIdx
set_option linter.all false
set_option maxRecDepth 20000
namespace Go.Proofs.Ytekbacebbflidaa
open Go.Nk

def oneV (l : List En) (t : Ty) (n : Int) : Bool := if t.k = 2 then n == 0 || n == 1 else t.k == 1 || (decide (0 ≤ n) && decide (n < (l.getD t.e.toNat default).ct.length))
def oneF (l : List En) (t : Ty) (n : Int) : Bool := rightTy l t && oneV l t n
noncomputable def s_One : List DV → Prop × DV := spec3 eEns eTy eI fun l t n => (True, .bool (oneF l t n))
theorem s_One_at (l : List En) (t : Ty) (n : Int) : s_One [.sl (l.map cEn), .agg (cTy t), .int .i64 n] = (True, .bool (oneF l t n)) := spec3_at inj_Ens inj_Ty inj_I _ _ _ _
theorem kind_at {l : List En} {t : Ty} (h : rightTy l t = true) : t.k = 1 ∨ t.k = 2 ∨ t.k = 3 := by
  simp only [rightTy, Bool.and_eq_true, decide_eq_true_eq] at h
  omega
theorem ok_refOne : OkP Try.prog 52 s_One := by
  refine OkP.mk3 (ps := [(26, s_RightTy)]) (hs := []) ⟨ok_refRightTy, trivial⟩ trivial m_noriaref06_One fun l t n _ => ?_
  have e1 := s_RightTy_at l t
  simp only [cTy] at e1
  by_cases q : rightTy l t = true
  rotate_left
  · (have hcondQ := Bool.and_self; refine Todo.of ?_; repeat' (first | ((with_reducible refine Todo.to ?_); try simp only [↓rP, rT, rU, eI, eU, eB, eS, eBs, eL, eA, buildCells, sepsD, sepB, hdl, dvalX, DOp.kind, dval, frameFrom, dBin, dInt, dStr, dBeq, dUn, dLoad, cellsAt, retV, retL, DR.val, fzT, fzVs, fzV, fz1, DV.immB, IntKind.bits, dCallP, viewVs, viewV, view1, capVL, capV, viewL, noMemV, noMem, elemsOf, dAppend, dAppz, dStore, DV.one, alive, freezeAt, fzLL, fzL, bRow, bU, cellsOf, setFrom, DV.isU, lenMax, Nat.reduceEqDiff, Nat.reduceAdd, ↓reduceIte, reduceCtorEq, Nat.reduceSub, Int.reduceToNat, Int.reducePow, Nat.reducePow, Int.reduceLE, Int.reduceLT, Nat.reduceLeDiff, Nat.reduceLT, Int.reduceBEq, Int.reduceBNe, Int.reduceEq, Int.reduceNe, Int.reduceAdd, Int.reduceSub, Int.reduceMul, Int.reduceNeg, Int.reduceTDiv, Int.reduceTMod, Int.reduceMod, Int.reduceDiv, Nat.reduceMul, forall_const, implies_true, d_noriaref06_One, e1, q, hcondQ]) | ((with_reducible refine And.intro ?_ ?_); · first | trivial | omega | (simp; done) | (simp; omega)) | ((first | ((with_reducible refine dwp_condI (t := ?_) ?_ (fun hcQ => ?_) (fun hcQ => ?_)); rotate_left; · rfl) | ((with_reducible refine dops_guardI (t := ?_) ?_ (fun hcQ => ?_) (fun hcQ => ?_)); rotate_left; · rfl)) <;> (have hn := hcQ; have hcondQ := hcQ) <;> (try simp only [decide_eq_true_eq, decide_eq_false_iff_not, beq_iff_eq, bne_iff_ne, ne_eq, Bool.and_eq_true, Bool.or_eq_true, Bool.not_eq_true, Bool.not_eq_false, beq_eq_false_iff_ne, bne_eq_false_iff_eq, Bool.not_eq_true', Bool.not_eq_false', Int.ofNat_lt, Int.ofNat_le, Bool.or_eq_false_iff, Bool.and_eq_false_imp, Decidable.not_not, gt_iff_lt, ge_iff_le] at hn) <;> (try (exfalso; omega)) <;> (refine Todo.of ?_)) | (((with_reducible refine dwp_condA ?_ ?_ ?_); · rfl) <;> (refine Todo.of ?_))))
    all_goals grind [oneF]
  have hr : oneF l t n = oneV l t n := by simp [oneF, q]
  rw [hr]
  rcases kind_at q with k | k | k
  · have k1 : (t.k == 1) = true := by simp [k]
    have k2 : (t.k == 2) = false := by simp [k]
    (have hcondQ := Bool.and_self; refine Todo.of ?_; repeat' (first | ((with_reducible refine Todo.to ?_); try simp only [↓rP, rT, rU, eI, eU, eB, eS, eBs, eL, eA, buildCells, sepsD, sepB, hdl, dvalX, DOp.kind, dval, frameFrom, dBin, dInt, dStr, dBeq, dUn, dLoad, cellsAt, retV, retL, DR.val, fzT, fzVs, fzV, fz1, DV.immB, IntKind.bits, dCallP, viewVs, viewV, view1, capVL, capV, viewL, noMemV, noMem, elemsOf, dAppend, dAppz, dStore, DV.one, alive, freezeAt, fzLL, fzL, bRow, bU, cellsOf, setFrom, DV.isU, lenMax, Nat.reduceEqDiff, Nat.reduceAdd, ↓reduceIte, reduceCtorEq, Nat.reduceSub, Int.reduceToNat, Int.reducePow, Nat.reducePow, Int.reduceLE, Int.reduceLT, Nat.reduceLeDiff, Nat.reduceLT, Int.reduceBEq, Int.reduceBNe, Int.reduceEq, Int.reduceNe, Int.reduceAdd, Int.reduceSub, Int.reduceMul, Int.reduceNeg, Int.reduceTDiv, Int.reduceTMod, Int.reduceMod, Int.reduceDiv, Nat.reduceMul, forall_const, implies_true, d_noriaref06_One, e1, q, k1, k2, hcondQ]) | ((with_reducible refine And.intro ?_ ?_); · first | trivial | omega | (simp; done) | (simp; omega)) | ((first | ((with_reducible refine dwp_condI (t := ?_) ?_ (fun hcQ => ?_) (fun hcQ => ?_)); rotate_left; · rfl) | ((with_reducible refine dops_guardI (t := ?_) ?_ (fun hcQ => ?_) (fun hcQ => ?_)); rotate_left; · rfl)) <;> (have hn := hcQ; have hcondQ := hcQ) <;> (try simp only [decide_eq_true_eq, decide_eq_false_iff_not, beq_iff_eq, bne_iff_ne, ne_eq, Bool.and_eq_true, Bool.or_eq_true, Bool.not_eq_true, Bool.not_eq_false, beq_eq_false_iff_ne, bne_eq_false_iff_eq, Bool.not_eq_true', Bool.not_eq_false', Int.ofNat_lt, Int.ofNat_le, Bool.or_eq_false_iff, Bool.and_eq_false_imp, Decidable.not_not, gt_iff_lt, ge_iff_le] at hn) <;> (try (exfalso; omega)) <;> (refine Todo.of ?_)) | (((with_reducible refine dwp_condA ?_ ?_ ?_); · rfl) <;> (refine Todo.of ?_))))
    all_goals grind [oneV]
  · have k2 : (t.k == 2) = true := by simp [k]
    (have hcondQ := Bool.and_self; refine Todo.of ?_; repeat' (first | ((with_reducible refine Todo.to ?_); try simp only [↓rP, rT, rU, eI, eU, eB, eS, eBs, eL, eA, buildCells, sepsD, sepB, hdl, dvalX, DOp.kind, dval, frameFrom, dBin, dInt, dStr, dBeq, dUn, dLoad, cellsAt, retV, retL, DR.val, fzT, fzVs, fzV, fz1, DV.immB, IntKind.bits, dCallP, viewVs, viewV, view1, capVL, capV, viewL, noMemV, noMem, elemsOf, dAppend, dAppz, dStore, DV.one, alive, freezeAt, fzLL, fzL, bRow, bU, cellsOf, setFrom, DV.isU, lenMax, Nat.reduceEqDiff, Nat.reduceAdd, ↓reduceIte, reduceCtorEq, Nat.reduceSub, Int.reduceToNat, Int.reducePow, Nat.reducePow, Int.reduceLE, Int.reduceLT, Nat.reduceLeDiff, Nat.reduceLT, Int.reduceBEq, Int.reduceBNe, Int.reduceEq, Int.reduceNe, Int.reduceAdd, Int.reduceSub, Int.reduceMul, Int.reduceNeg, Int.reduceTDiv, Int.reduceTMod, Int.reduceMod, Int.reduceDiv, Nat.reduceMul, forall_const, implies_true, d_noriaref06_One, e1, q, k2, hcondQ]) | ((with_reducible refine And.intro ?_ ?_); · first | trivial | omega | (simp; done) | (simp; omega)) | ((first | ((with_reducible refine dwp_condI (t := ?_) ?_ (fun hcQ => ?_) (fun hcQ => ?_)); rotate_left; · rfl) | ((with_reducible refine dops_guardI (t := ?_) ?_ (fun hcQ => ?_) (fun hcQ => ?_)); rotate_left; · rfl)) <;> (have hn := hcQ; have hcondQ := hcQ) <;> (try simp only [decide_eq_true_eq, decide_eq_false_iff_not, beq_iff_eq, bne_iff_ne, ne_eq, Bool.and_eq_true, Bool.or_eq_true, Bool.not_eq_true, Bool.not_eq_false, beq_eq_false_iff_ne, bne_eq_false_iff_eq, Bool.not_eq_true', Bool.not_eq_false', Int.ofNat_lt, Int.ofNat_le, Bool.or_eq_false_iff, Bool.and_eq_false_imp, Decidable.not_not, gt_iff_lt, ge_iff_le] at hn) <;> (try (exfalso; omega)) <;> (refine Todo.of ?_)) | (((with_reducible refine dwp_condA ?_ ?_ ?_); · rfl) <;> (refine Todo.of ?_))))
    all_goals grind [oneV]
  · have k1 : (t.k == 1) = false := by simp [k]
    have k2 : (t.k == 2) = false := by simp [k]
    obtain ⟨i, hi, li⟩ := enum_at q k
    have g1 := en_getD li
    simp only [cEn] at g1
    have hv : oneV l t n = (decide (0 ≤ n) && decide (n < (l.getD i default).ct.length)) := by
      unfold oneV
      rw [if_neg (by omega), k1, hi]
      rfl
    rw [hv]
    rw [hi] at e1
    generalize l.getD i default = x at *
    (have hcondQ := Bool.and_self; refine Todo.of ?_; repeat' (first | ((with_reducible refine Todo.to ?_); try simp only [↓rP, rT, rU, eI, eU, eB, eS, eBs, eL, eA, buildCells, sepsD, sepB, hdl, dvalX, DOp.kind, dval, frameFrom, dBin, dInt, dStr, dBeq, dUn, dLoad, cellsAt, retV, retL, DR.val, fzT, fzVs, fzV, fz1, DV.immB, IntKind.bits, dCallP, viewVs, viewV, view1, capVL, capV, viewL, noMemV, noMem, elemsOf, dAppend, dAppz, dStore, DV.one, alive, freezeAt, fzLL, fzL, bRow, bU, cellsOf, setFrom, DV.isU, lenMax, Nat.reduceEqDiff, Nat.reduceAdd, ↓reduceIte, reduceCtorEq, Nat.reduceSub, Int.reduceToNat, Int.reducePow, Nat.reducePow, Int.reduceLE, Int.reduceLT, Nat.reduceLeDiff, Nat.reduceLT, Int.reduceBEq, Int.reduceBNe, Int.reduceEq, Int.reduceNe, Int.reduceAdd, Int.reduceSub, Int.reduceMul, Int.reduceNeg, Int.reduceTDiv, Int.reduceTMod, Int.reduceMod, Int.reduceDiv, Nat.reduceMul, forall_const, implies_true, d_noriaref06_One, List.length_map, sls_len, e1, q, k1, k2, hi, li, g1, hcondQ]) | ((with_reducible refine And.intro ?_ ?_); · first | trivial | omega | (simp; done) | (simp; omega)) | ((first | ((with_reducible refine dwp_condI (t := ?_) ?_ (fun hcQ => ?_) (fun hcQ => ?_)); rotate_left; · rfl) | ((with_reducible refine dops_guardI (t := ?_) ?_ (fun hcQ => ?_) (fun hcQ => ?_)); rotate_left; · rfl)) <;> (have hn := hcQ; have hcondQ := hcQ) <;> (try simp only [decide_eq_true_eq, decide_eq_false_iff_not, beq_iff_eq, bne_iff_ne, ne_eq, Bool.and_eq_true, Bool.or_eq_true, Bool.not_eq_true, Bool.not_eq_false, beq_eq_false_iff_ne, bne_eq_false_iff_eq, Bool.not_eq_true', Bool.not_eq_false', Int.ofNat_lt, Int.ofNat_le, Bool.or_eq_false_iff, Bool.and_eq_false_imp, Decidable.not_not, gt_iff_lt, ge_iff_le] at hn) <;> (try (exfalso; omega)) <;> (refine Todo.of ?_)) | (((with_reducible refine dwp_condA ?_ ?_ ?_); · rfl) <;> (refine Todo.of ?_))))
    all_goals grind
@[reducible] def eREns (l : List En) : DV := .ref [.sl (l.map cEn)]
theorem inj_REns : Inj eREns := fun _ _ h => by
  injection h with h
  injection h with h _
  injection h with h
  exact map_inj cEn_inj _ _ h
@[reducible] def eRTy (t : Ty) : DV := .ref (cTy t)
theorem inj_RTy : Inj eRTy := fun _ _ h => by
  injection h with h
  exact cTy_inj _ _ h
noncomputable def s_Not1 : List DV → Prop × DV := spec3 eI eREns eRTy fun n l t => (True, .bool (!oneF l t n))
theorem s_Not1_at (n : Int) (l : List En) (t : Ty) : s_Not1 [.int .i64 n, .ref [.sl (l.map cEn)], .ref (cTy t)] = (True, .bool (!oneF l t n)) := spec3_at inj_I inj_REns inj_RTy _ _ _ _
def notF (x : List En × Ty) (n : Int) : Bool := !oneF x.1 x.2 n
end Go.Proofs.Ytekbacebbflidaa
