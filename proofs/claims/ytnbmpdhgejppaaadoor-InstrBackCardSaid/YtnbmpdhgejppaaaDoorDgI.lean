/- Numbers' digits. -/
import Derived.Test.YtnbmpdhgejppaaaDoorBa
import Derived.Test.YtnbmpdhgejppaaaDoorRaw
import Derived.Lib.ItoaNum
import Derived.Lib.Join
set_option linter.all false
set_option maxRecDepth 20000
namespace Go.Proofs.YtnbmpdhgejppaaaDoor
open Go.Nk

/-! Digits. -/
theorem nDigits_le : ∀ (k u : Nat), 1 ≤ k → u < 10 ^ k → Lib.nDigits u ≤ k
  | 0, u, h, _ => by omega
  | k + 1, u, _, h => by
    by_cases hu : u < 10
    · rw [Lib.nDigits_small hu]; omega
    · rw [Lib.nDigits_big hu]
      have hk : 1 ≤ k := by
        rcases Nat.eq_zero_or_pos k with e | e
        · subst e; simp at h; omega
        · exact e
      have := nDigits_le k (u / 10) hk (by rw [Nat.pow_succ] at h; omega)
      omega
theorem itoa_len {n : Int} (h : okI64 n) : (Lib.itoa n).length ≤ 21 := by
  obtain ⟨h1, h2⟩ := h
  unfold Lib.itoa
  split
  · simp only [List.length_cons, Lib.decDigits_length]
    have := nDigits_le 20 n.natAbs (by decide) (by omega)
    omega
  · rw [Lib.decDigits_length]
    have := nDigits_le 20 n.toNat (by decide) (by omega)
    omega
/-- What is left of a number's digits, and those that stand already. -/
def dgt (u : Nat) (s : List UInt8) : List UInt8 := if u = 0 ∧ s ≠ [] then s else Lib.decDigits u ++ s
theorem dgt_step (u : Nat) (s : List UInt8) (h : 0 < u ∨ s = []) : dgt (u / 10) (UInt8.ofNat (48 + u % 10) :: s) = dgt u s := by
  have e1 : dgt u s = Lib.decDigits u ++ s := by
    unfold dgt
    rw [if_neg]
    rintro ⟨h1, h2⟩
    rcases h with h | h
    · omega
    · exact h2 h
  rw [e1, Lib.decDigits]
  unfold dgt
  by_cases hu : u < 10
  · have : u / 10 = 0 := by omega
    have e2 : u % 10 = u := by omega
    rw [if_pos ⟨this, by simp⟩, dif_pos hu, e2]; rfl
  · have : u / 10 ≠ 0 := by omega
    rw [if_neg (fun x => this x.1), dif_neg hu]; simp
theorem dgt_end (s : List UInt8) (h : s ≠ []) : dgt 0 s = s := by unfold dgt; rw [if_pos ⟨rfl, h⟩]
theorem dgt_start (u : Nat) : dgt u [] = Lib.decDigits u := by unfold dgt; rw [if_neg (fun x => x.2 rfl)]; simp
noncomputable def s_Digits : List DV → Prop × DV := spec1 eI fun n => (okI64 n, .str (Lib.itoa n))
theorem s_Digits_at (n : Int) : s_Digits [.int .i64 n] = (okI64 n, .str (Lib.itoa n)) := spec1_at inj_I _ n
theorem natAbs_wrap {n : Int} (h : okI64 n) (h0 : n < 0) : IntKind.u64.wrap n = n + 18446744073709551616 ∧ IntKind.u64.wrap (0 - (n + 18446744073709551616)) = (n.natAbs : Int) := by
  obtain ⟨h1, h2⟩ := h
  constructor
  · rw [IntKind.wrap_u64]; omega
  · rw [IntKind.wrap_u64]; omega
theorem digit_byte (u : Nat) : (UInt8.ofNat (IntKind.u8.wrap (IntKind.u64.wrap (48 + ((u : Int).tmod 10)))).toNat) = UInt8.ofNat (48 + u % 10) := by
  have e : ((u : Int).tmod 10) = ((u % 10 : Nat) : Int) := by rw [Int.tmod_eq_emod_of_nonneg (by omega)]; omega
  rw [e, IntKind.wrap_u64, IntKind.wrap_u8]
  congr 1
  omega
theorem dgt_len (u : Nat) (s : List UInt8) : s.length ≤ (dgt u s).length := by
  unfold dgt
  split
  · exact Nat.le_refl _
  · rw [List.length_append]; omega
theorem ok_noriaref06_Digits : OkP Tryd.prog 26 s_Digits := by
  refine OkP.mk1 (ps := []) (hs := []) trivial trivial m_noriaref06_Digits fun n h => ?_
  try dsimp only at h
  have h : okI64 n := h
  have hlen := itoa_len h
  obtain ⟨u0, hu0, hua, hit⟩ : ∃ u0 : Nat, u0 < 18446744073709551616 ∧ (if n < 0 then IntKind.u64.wrap (0 - IntKind.u64.wrap n) else IntKind.u64.wrap n) = (u0 : Int) ∧ Lib.itoa n = if n < 0 then 45 :: Lib.decDigits u0 else Lib.decDigits u0 := by
    unfold Lib.itoa
    by_cases h0 : n < 0
    · obtain ⟨e1, e2⟩ := natAbs_wrap h h0
      exact ⟨n.natAbs, by have := h.1; omega, by rw [if_pos h0, e1, e2], by rw [if_pos h0, if_pos h0]⟩
    · exact ⟨n.toNat, by have := h.2; omega, by rw [if_neg h0, IntKind.wrap_u64]; have := h.2; omega, by rw [if_neg h0, if_neg h0]⟩
  have hdl : (Lib.decDigits u0).length ≤ 21 := by
    rw [hit] at hlen
    split at hlen
    · simp only [List.length_cons] at hlen; omega
    · exact hlen
  by_cases h0 : n < 0
  · rw [if_pos h0] at hua hit
    (have hcondQ := Bool.and_self; refine Todo.of ?_); (repeat' (first | ((with_reducible refine Todo.to ?_); (repeat (first | (simp only [↓rP, rT, rU, eI, eU, eB, eS, eBs, eL, eA, buildCells, sepsD, sepB, hdl, dvalX, DOp.kind, dval, frameFrom, dBin, dInt, dStr, dBeq, dUn, dLoad, cellsAt, retV, retL, DR.val, fzT, fzVs, fzV, fz1, DV.immB, IntKind.bits, dCallP, viewVs, viewV, view1, capVL, capV, viewL, noMemV, noMem, elemsOf, dAppend, dAppz, dStore, DV.one, alive, freezeAt, fzLL, fzL, bRow, bU, cellsOf, setFrom, DV.isU, lenMax, lenCap, Nat.reduceEqDiff, Nat.reduceAdd, ↓reduceIte, reduceCtorEq, Nat.reduceSub, Int.reduceToNat, Int.reducePow, Nat.reducePow, Int.reduceLE, Int.reduceLT, Nat.reduceLeDiff, Nat.reduceLT, Int.reduceBEq, Int.reduceBNe, Int.reduceEq, Int.reduceNe, Int.reduceAdd, Int.reduceSub, Int.reduceMul, Int.reduceNeg, Int.reduceTDiv, Int.reduceTMod, Int.reduceMod, Int.reduceDiv, Nat.reduceMul, forall_const, implies_true, d_noriaref06_Digits, eIls, eRows, eSs, eY, sls_len, ils_len, ils_rowsT, sls_rowsT, sls_tk0, ils_tk0, h0 , hcondQ]) | (simp (disch := omega) only [i64_id, u64_id, u8_id, getD_map'])))) | ((with_reducible refine And.intro ?_ ?_); · first | trivial | omega | (simp; done) | (simp; omega)) | ((first | ((with_reducible refine dwp_condI (t := ?_) ?_ (fun hcQ => ?_) (fun hcQ => ?_)); rotate_left; · rfl) | ((with_reducible refine dops_guardI (t := ?_) ?_ (fun hcQ => ?_) (fun hcQ => ?_)); rotate_left; · rfl)) <;> (have hn := hcQ; have hcondQ := hcQ) <;> (try simp only [decide_eq_true_eq, decide_eq_false_iff_not, beq_iff_eq, bne_iff_ne, ne_eq, Bool.and_eq_true, Bool.or_eq_true, Bool.not_eq_true, Bool.not_eq_false, beq_eq_false_iff_ne, bne_eq_false_iff_eq, Bool.not_eq_true', Bool.not_eq_false', Int.ofNat_lt, Int.ofNat_le, Bool.or_eq_false_iff, Bool.and_eq_false_imp, Decidable.not_not, gt_iff_lt, ge_iff_le] at hn) <;> (try (exfalso; omega)) <;> (refine Todo.of ?_)) | (((with_reducible refine dwp_condA ?_ ?_ ?_); · rfl) <;> (refine Todo.of ?_)))) <;> (try (first | (with_reducible rfl) | exact Nat.le_refl _ | exact Int.le_refl _ | assumption | omega))
    refine dwp_loop (fun x : Nat × List UInt8 => ⟨[(0, .int .i64 n), (3, .int .u64 x.1), (4, .str x.2)], []⟩) (fun x => x.1 < 18446744073709551616 ∧ dgt x.1 x.2 = Lib.decDigits u0) (fun x => 2 * x.1 + (if x.2 = [] then 1 else 0)) (u0, []) (Nat.zero_le _) (by simp only [cut_some, cut_none, List.map_cons, List.map_nil, get_cons, Nk.get_nil, Nat.reduceEqDiff, ↓reduceIte, Nat.succ_ne_self, DV.cut, DV.inB, DObj.cut, List.take_nil, List.take_zero, if_true, Nat.zero_ne_one, Nat.one_ne_zero, DV.inBL, Bool.and_true, Bool.true_and, reduceCtorEq, Nat.zero_lt_one, decide_true, decide_false, Nat.reduceLT, List.take_succ_cons, Int.natCast_add, Int.natCast_one, List.length_append, List.length_cons, List.length_nil, Nat.zero_add, hua] <;> rfl) ⟨hu0, dgt_start u0⟩ fun x hx => ?_
    obtain ⟨u, s⟩ := x
    obtain ⟨hx1, hx2⟩ := hx
    simp only at hx1 hx2 ⊢
    have hsl := dgt_len u s
    rw [hx2] at hsl
    have m10 : ((10 : Int) = 0) = False := by simp
    have eb := digit_byte u
    have eb2 : b2f [DV.int .u8 (IntKind.u8.wrap (IntKind.u64.wrap (48 + (u : Int).tmod 10)))] = UInt8.ofNat (48 + u % 10) := eb
    have eq1 : IntKind.u64.wrap ((u : Int).tdiv 10) = ((u / 10 : Nat) : Int) := by
      rw [Int.tdiv_eq_ediv_of_nonneg (by omega), IntKind.wrap_u64]; omega
    have sm : 1 + s.length ≤ 4611686018427387904 := by omega
    by_cases u1 : 0 < u
    · have u2 : (0 : Int) < (u : Int) := by omega
      (have hcondQ := Bool.and_self; refine Todo.of ?_); (repeat' (first | ((with_reducible refine Todo.to ?_); (repeat (first | (simp only [↓rP, rT, rU, eI, eU, eB, eS, eBs, eL, eA, buildCells, sepsD, sepB, hdl, dvalX, DOp.kind, dval, frameFrom, dBin, dInt, dStr, dBeq, dUn, dLoad, cellsAt, retV, retL, DR.val, fzT, fzVs, fzV, fz1, DV.immB, IntKind.bits, dCallP, viewVs, viewV, view1, capVL, capV, viewL, noMemV, noMem, elemsOf, dAppend, dAppz, dStore, DV.one, alive, freezeAt, fzLL, fzL, bRow, bU, cellsOf, setFrom, DV.isU, lenMax, lenCap, Nat.reduceEqDiff, Nat.reduceAdd, ↓reduceIte, reduceCtorEq, Nat.reduceSub, Int.reduceToNat, Int.reducePow, Nat.reducePow, Int.reduceLE, Int.reduceLT, Nat.reduceLeDiff, Nat.reduceLT, Int.reduceBEq, Int.reduceBNe, Int.reduceEq, Int.reduceNe, Int.reduceAdd, Int.reduceSub, Int.reduceMul, Int.reduceNeg, Int.reduceTDiv, Int.reduceTMod, Int.reduceMod, Int.reduceDiv, Nat.reduceMul, forall_const, implies_true, d_noriaref06_Digits, eIls, eRows, eSs, eY, sls_len, ils_len, ils_rowsT, sls_rowsT, sls_tk0, ils_tk0, u2, eb, eq1, sm, strMax , hcondQ]) | (simp (disch := omega) only [i64_id, u64_id, u8_id, getD_map'])))) | ((with_reducible refine And.intro ?_ ?_); · first | trivial | omega | (simp; done) | (simp; omega)) | ((first | ((with_reducible refine dwp_condI (t := ?_) ?_ (fun hcQ => ?_) (fun hcQ => ?_)); rotate_left; · rfl) | ((with_reducible refine dops_guardI (t := ?_) ?_ (fun hcQ => ?_) (fun hcQ => ?_)); rotate_left; · rfl)) <;> (have hn := hcQ; have hcondQ := hcQ) <;> (try simp only [decide_eq_true_eq, decide_eq_false_iff_not, beq_iff_eq, bne_iff_ne, ne_eq, Bool.and_eq_true, Bool.or_eq_true, Bool.not_eq_true, Bool.not_eq_false, beq_eq_false_iff_ne, bne_eq_false_iff_eq, Bool.not_eq_true', Bool.not_eq_false', Int.ofNat_lt, Int.ofNat_le, Bool.or_eq_false_iff, Bool.and_eq_false_imp, Decidable.not_not, gt_iff_lt, ge_iff_le] at hn) <;> (try (exfalso; omega)) <;> (refine Todo.of ?_)) | (((with_reducible refine dwp_condA ?_ ?_ ?_); · rfl) <;> (refine Todo.of ?_)))) <;> (try (first | (with_reducible rfl) | exact Nat.le_refl _ | exact Int.le_refl _ | assumption | omega))
      all_goals first
        | omega
        | (refine ⟨(u / 10, UInt8.ofNat (48 + u % 10) :: s), ?_, ⟨by simp only; omega, by rw [dgt_step u s (.inl u1)]; exact hx2⟩, by simp only; rw [if_neg (by simp)]; omega⟩
           simp only [cut_some, cut_none, List.map_cons, List.map_nil, get_cons, Nk.get_nil, Nat.reduceEqDiff, ↓reduceIte, Nat.succ_ne_self, DV.cut, DV.inB, DObj.cut, List.take_nil, List.take_zero, if_true, Nat.zero_ne_one, Nat.one_ne_zero, DV.inBL, Bool.and_true, Bool.true_and, reduceCtorEq, Nat.zero_lt_one, decide_true, decide_false, Nat.reduceLT, List.take_succ_cons, eb2, List.singleton_append])
    have u0e : u = 0 := by omega
    subst u0e
    by_cases s1 : s = []
    · subst s1
      (have hcondQ := Bool.and_self; refine Todo.of ?_); (repeat' (first | ((with_reducible refine Todo.to ?_); (repeat (first | (simp only [↓rP, rT, rU, eI, eU, eB, eS, eBs, eL, eA, buildCells, sepsD, sepB, hdl, dvalX, DOp.kind, dval, frameFrom, dBin, dInt, dStr, dBeq, dUn, dLoad, cellsAt, retV, retL, DR.val, fzT, fzVs, fzV, fz1, DV.immB, IntKind.bits, dCallP, viewVs, viewV, view1, capVL, capV, viewL, noMemV, noMem, elemsOf, dAppend, dAppz, dStore, DV.one, alive, freezeAt, fzLL, fzL, bRow, bU, cellsOf, setFrom, DV.isU, lenMax, lenCap, Nat.reduceEqDiff, Nat.reduceAdd, ↓reduceIte, reduceCtorEq, Nat.reduceSub, Int.reduceToNat, Int.reducePow, Nat.reducePow, Int.reduceLE, Int.reduceLT, Nat.reduceLeDiff, Nat.reduceLT, Int.reduceBEq, Int.reduceBNe, Int.reduceEq, Int.reduceNe, Int.reduceAdd, Int.reduceSub, Int.reduceMul, Int.reduceNeg, Int.reduceTDiv, Int.reduceTMod, Int.reduceMod, Int.reduceDiv, Nat.reduceMul, forall_const, implies_true, d_noriaref06_Digits, eIls, eRows, eSs, eY, sls_len, ils_len, ils_rowsT, sls_rowsT, sls_tk0, ils_tk0, eb, eq1, strMax , hcondQ]) | (simp (disch := omega) only [i64_id, u64_id, u8_id, getD_map'])))) | ((with_reducible refine And.intro ?_ ?_); · first | trivial | omega | (simp; done) | (simp; omega)) | ((first | ((with_reducible refine dwp_condI (t := ?_) ?_ (fun hcQ => ?_) (fun hcQ => ?_)); rotate_left; · rfl) | ((with_reducible refine dops_guardI (t := ?_) ?_ (fun hcQ => ?_) (fun hcQ => ?_)); rotate_left; · rfl)) <;> (have hn := hcQ; have hcondQ := hcQ) <;> (try simp only [decide_eq_true_eq, decide_eq_false_iff_not, beq_iff_eq, bne_iff_ne, ne_eq, Bool.and_eq_true, Bool.or_eq_true, Bool.not_eq_true, Bool.not_eq_false, beq_eq_false_iff_ne, bne_eq_false_iff_eq, Bool.not_eq_true', Bool.not_eq_false', Int.ofNat_lt, Int.ofNat_le, Bool.or_eq_false_iff, Bool.and_eq_false_imp, Decidable.not_not, gt_iff_lt, ge_iff_le] at hn) <;> (try (exfalso; omega)) <;> (refine Todo.of ?_)) | (((with_reducible refine dwp_condA ?_ ?_ ?_); · rfl) <;> (refine Todo.of ?_)))) <;> (try (first | (with_reducible rfl) | exact Nat.le_refl _ | exact Int.le_refl _ | assumption | omega))
      all_goals first
        | omega
        | (refine ⟨(0, [48]), ?_, ⟨by simp, (dgt_step 0 [] (.inr rfl)).trans hx2⟩, by simp⟩
           simp only [cut_some, cut_none, List.map_cons, List.map_nil, get_cons, Nk.get_nil, Nat.reduceEqDiff, ↓reduceIte, Nat.succ_ne_self, DV.cut, DV.inB, DObj.cut, List.take_nil, List.take_zero, if_true, Nat.zero_ne_one, Nat.one_ne_zero, DV.inBL, Bool.and_true, Bool.true_and, reduceCtorEq, Nat.zero_lt_one, decide_true, decide_false, Nat.reduceLT, List.take_succ_cons]
           rfl)
    · rw [dgt_end s s1] at hx2
      have s2 : (s == []) = false := by simpa using s1
      rw [hit, ← hx2]
      (have hcondQ := Bool.and_self; refine Todo.of ?_); (repeat' (first | ((with_reducible refine Todo.to ?_); (repeat (first | (simp only [↓rP, rT, rU, eI, eU, eB, eS, eBs, eL, eA, buildCells, sepsD, sepB, hdl, dvalX, DOp.kind, dval, frameFrom, dBin, dInt, dStr, dBeq, dUn, dLoad, cellsAt, retV, retL, DR.val, fzT, fzVs, fzV, fz1, DV.immB, IntKind.bits, dCallP, viewVs, viewV, view1, capVL, capV, viewL, noMemV, noMem, elemsOf, dAppend, dAppz, dStore, DV.one, alive, freezeAt, fzLL, fzL, bRow, bU, cellsOf, setFrom, DV.isU, lenMax, lenCap, Nat.reduceEqDiff, Nat.reduceAdd, ↓reduceIte, reduceCtorEq, Nat.reduceSub, Int.reduceToNat, Int.reducePow, Nat.reducePow, Int.reduceLE, Int.reduceLT, Nat.reduceLeDiff, Nat.reduceLT, Int.reduceBEq, Int.reduceBNe, Int.reduceEq, Int.reduceNe, Int.reduceAdd, Int.reduceSub, Int.reduceMul, Int.reduceNeg, Int.reduceTDiv, Int.reduceTMod, Int.reduceMod, Int.reduceDiv, Nat.reduceMul, forall_const, implies_true, d_noriaref06_Digits, eIls, eRows, eSs, eY, sls_len, ils_len, ils_rowsT, sls_rowsT, sls_tk0, ils_tk0, s2, h0, strMax, sm , hcondQ]) | (simp (disch := omega) only [i64_id, u64_id, u8_id, getD_map'])))) | ((with_reducible refine And.intro ?_ ?_); · first | trivial | omega | (simp; done) | (simp; omega)) | ((first | ((with_reducible refine dwp_condI (t := ?_) ?_ (fun hcQ => ?_) (fun hcQ => ?_)); rotate_left; · rfl) | ((with_reducible refine dops_guardI (t := ?_) ?_ (fun hcQ => ?_) (fun hcQ => ?_)); rotate_left; · rfl)) <;> (have hn := hcQ; have hcondQ := hcQ) <;> (try simp only [decide_eq_true_eq, decide_eq_false_iff_not, beq_iff_eq, bne_iff_ne, ne_eq, Bool.and_eq_true, Bool.or_eq_true, Bool.not_eq_true, Bool.not_eq_false, beq_eq_false_iff_ne, bne_eq_false_iff_eq, Bool.not_eq_true', Bool.not_eq_false', Int.ofNat_lt, Int.ofNat_le, Bool.or_eq_false_iff, Bool.and_eq_false_imp, Decidable.not_not, gt_iff_lt, ge_iff_le] at hn) <;> (try (exfalso; omega)) <;> (refine Todo.of ?_)) | (((with_reducible refine dwp_condA ?_ ?_ ?_); · rfl) <;> (refine Todo.of ?_)))) <;> (try (first | (with_reducible rfl) | exact Nat.le_refl _ | exact Int.le_refl _ | assumption | omega))
  · rw [if_neg h0] at hua hit
    (have hcondQ := Bool.and_self; refine Todo.of ?_); (repeat' (first | ((with_reducible refine Todo.to ?_); (repeat (first | (simp only [↓rP, rT, rU, eI, eU, eB, eS, eBs, eL, eA, buildCells, sepsD, sepB, hdl, dvalX, DOp.kind, dval, frameFrom, dBin, dInt, dStr, dBeq, dUn, dLoad, cellsAt, retV, retL, DR.val, fzT, fzVs, fzV, fz1, DV.immB, IntKind.bits, dCallP, viewVs, viewV, view1, capVL, capV, viewL, noMemV, noMem, elemsOf, dAppend, dAppz, dStore, DV.one, alive, freezeAt, fzLL, fzL, bRow, bU, cellsOf, setFrom, DV.isU, lenMax, lenCap, Nat.reduceEqDiff, Nat.reduceAdd, ↓reduceIte, reduceCtorEq, Nat.reduceSub, Int.reduceToNat, Int.reducePow, Nat.reducePow, Int.reduceLE, Int.reduceLT, Nat.reduceLeDiff, Nat.reduceLT, Int.reduceBEq, Int.reduceBNe, Int.reduceEq, Int.reduceNe, Int.reduceAdd, Int.reduceSub, Int.reduceMul, Int.reduceNeg, Int.reduceTDiv, Int.reduceTMod, Int.reduceMod, Int.reduceDiv, Nat.reduceMul, forall_const, implies_true, d_noriaref06_Digits, eIls, eRows, eSs, eY, sls_len, ils_len, ils_rowsT, sls_rowsT, sls_tk0, ils_tk0, h0 , hcondQ]) | (simp (disch := omega) only [i64_id, u64_id, u8_id, getD_map'])))) | ((with_reducible refine And.intro ?_ ?_); · first | trivial | omega | (simp; done) | (simp; omega)) | ((first | ((with_reducible refine dwp_condI (t := ?_) ?_ (fun hcQ => ?_) (fun hcQ => ?_)); rotate_left; · rfl) | ((with_reducible refine dops_guardI (t := ?_) ?_ (fun hcQ => ?_) (fun hcQ => ?_)); rotate_left; · rfl)) <;> (have hn := hcQ; have hcondQ := hcQ) <;> (try simp only [decide_eq_true_eq, decide_eq_false_iff_not, beq_iff_eq, bne_iff_ne, ne_eq, Bool.and_eq_true, Bool.or_eq_true, Bool.not_eq_true, Bool.not_eq_false, beq_eq_false_iff_ne, bne_eq_false_iff_eq, Bool.not_eq_true', Bool.not_eq_false', Int.ofNat_lt, Int.ofNat_le, Bool.or_eq_false_iff, Bool.and_eq_false_imp, Decidable.not_not, gt_iff_lt, ge_iff_le] at hn) <;> (try (exfalso; omega)) <;> (refine Todo.of ?_)) | (((with_reducible refine dwp_condA ?_ ?_ ?_); · rfl) <;> (refine Todo.of ?_)))) <;> (try (first | (with_reducible rfl) | exact Nat.le_refl _ | exact Int.le_refl _ | assumption | omega))
    refine dwp_loop (fun x : Nat × List UInt8 => ⟨[(0, .int .i64 n), (3, .int .u64 x.1), (4, .str x.2)], []⟩) (fun x => x.1 < 18446744073709551616 ∧ dgt x.1 x.2 = Lib.decDigits u0) (fun x => 2 * x.1 + (if x.2 = [] then 1 else 0)) (u0, []) (Nat.zero_le _) (by simp only [cut_some, cut_none, List.map_cons, List.map_nil, get_cons, Nk.get_nil, Nat.reduceEqDiff, ↓reduceIte, Nat.succ_ne_self, DV.cut, DV.inB, DObj.cut, List.take_nil, List.take_zero, if_true, Nat.zero_ne_one, Nat.one_ne_zero, DV.inBL, Bool.and_true, Bool.true_and, reduceCtorEq, Nat.zero_lt_one, decide_true, decide_false, Nat.reduceLT, List.take_succ_cons, Int.natCast_add, Int.natCast_one, List.length_append, List.length_cons, List.length_nil, Nat.zero_add, hua] <;> rfl) ⟨hu0, dgt_start u0⟩ fun x hx => ?_
    obtain ⟨u, s⟩ := x
    obtain ⟨hx1, hx2⟩ := hx
    simp only at hx1 hx2 ⊢
    have hsl := dgt_len u s
    rw [hx2] at hsl
    have m10 : ((10 : Int) = 0) = False := by simp
    have eb := digit_byte u
    have eb2 : b2f [DV.int .u8 (IntKind.u8.wrap (IntKind.u64.wrap (48 + (u : Int).tmod 10)))] = UInt8.ofNat (48 + u % 10) := eb
    have eq1 : IntKind.u64.wrap ((u : Int).tdiv 10) = ((u / 10 : Nat) : Int) := by
      rw [Int.tdiv_eq_ediv_of_nonneg (by omega), IntKind.wrap_u64]; omega
    have sm : 1 + s.length ≤ 4611686018427387904 := by omega
    by_cases u1 : 0 < u
    · have u2 : (0 : Int) < (u : Int) := by omega
      (have hcondQ := Bool.and_self; refine Todo.of ?_); (repeat' (first | ((with_reducible refine Todo.to ?_); (repeat (first | (simp only [↓rP, rT, rU, eI, eU, eB, eS, eBs, eL, eA, buildCells, sepsD, sepB, hdl, dvalX, DOp.kind, dval, frameFrom, dBin, dInt, dStr, dBeq, dUn, dLoad, cellsAt, retV, retL, DR.val, fzT, fzVs, fzV, fz1, DV.immB, IntKind.bits, dCallP, viewVs, viewV, view1, capVL, capV, viewL, noMemV, noMem, elemsOf, dAppend, dAppz, dStore, DV.one, alive, freezeAt, fzLL, fzL, bRow, bU, cellsOf, setFrom, DV.isU, lenMax, lenCap, Nat.reduceEqDiff, Nat.reduceAdd, ↓reduceIte, reduceCtorEq, Nat.reduceSub, Int.reduceToNat, Int.reducePow, Nat.reducePow, Int.reduceLE, Int.reduceLT, Nat.reduceLeDiff, Nat.reduceLT, Int.reduceBEq, Int.reduceBNe, Int.reduceEq, Int.reduceNe, Int.reduceAdd, Int.reduceSub, Int.reduceMul, Int.reduceNeg, Int.reduceTDiv, Int.reduceTMod, Int.reduceMod, Int.reduceDiv, Nat.reduceMul, forall_const, implies_true, d_noriaref06_Digits, eIls, eRows, eSs, eY, sls_len, ils_len, ils_rowsT, sls_rowsT, sls_tk0, ils_tk0, u2, eb, eq1, sm, strMax , hcondQ]) | (simp (disch := omega) only [i64_id, u64_id, u8_id, getD_map'])))) | ((with_reducible refine And.intro ?_ ?_); · first | trivial | omega | (simp; done) | (simp; omega)) | ((first | ((with_reducible refine dwp_condI (t := ?_) ?_ (fun hcQ => ?_) (fun hcQ => ?_)); rotate_left; · rfl) | ((with_reducible refine dops_guardI (t := ?_) ?_ (fun hcQ => ?_) (fun hcQ => ?_)); rotate_left; · rfl)) <;> (have hn := hcQ; have hcondQ := hcQ) <;> (try simp only [decide_eq_true_eq, decide_eq_false_iff_not, beq_iff_eq, bne_iff_ne, ne_eq, Bool.and_eq_true, Bool.or_eq_true, Bool.not_eq_true, Bool.not_eq_false, beq_eq_false_iff_ne, bne_eq_false_iff_eq, Bool.not_eq_true', Bool.not_eq_false', Int.ofNat_lt, Int.ofNat_le, Bool.or_eq_false_iff, Bool.and_eq_false_imp, Decidable.not_not, gt_iff_lt, ge_iff_le] at hn) <;> (try (exfalso; omega)) <;> (refine Todo.of ?_)) | (((with_reducible refine dwp_condA ?_ ?_ ?_); · rfl) <;> (refine Todo.of ?_)))) <;> (try (first | (with_reducible rfl) | exact Nat.le_refl _ | exact Int.le_refl _ | assumption | omega))
      all_goals first
        | omega
        | (refine ⟨(u / 10, UInt8.ofNat (48 + u % 10) :: s), ?_, ⟨by simp only; omega, by rw [dgt_step u s (.inl u1)]; exact hx2⟩, by simp only; rw [if_neg (by simp)]; omega⟩
           simp only [cut_some, cut_none, List.map_cons, List.map_nil, get_cons, Nk.get_nil, Nat.reduceEqDiff, ↓reduceIte, Nat.succ_ne_self, DV.cut, DV.inB, DObj.cut, List.take_nil, List.take_zero, if_true, Nat.zero_ne_one, Nat.one_ne_zero, DV.inBL, Bool.and_true, Bool.true_and, reduceCtorEq, Nat.zero_lt_one, decide_true, decide_false, Nat.reduceLT, List.take_succ_cons, eb2, List.singleton_append])
    have u0e : u = 0 := by omega
    subst u0e
    by_cases s1 : s = []
    · subst s1
      (have hcondQ := Bool.and_self; refine Todo.of ?_); (repeat' (first | ((with_reducible refine Todo.to ?_); (repeat (first | (simp only [↓rP, rT, rU, eI, eU, eB, eS, eBs, eL, eA, buildCells, sepsD, sepB, hdl, dvalX, DOp.kind, dval, frameFrom, dBin, dInt, dStr, dBeq, dUn, dLoad, cellsAt, retV, retL, DR.val, fzT, fzVs, fzV, fz1, DV.immB, IntKind.bits, dCallP, viewVs, viewV, view1, capVL, capV, viewL, noMemV, noMem, elemsOf, dAppend, dAppz, dStore, DV.one, alive, freezeAt, fzLL, fzL, bRow, bU, cellsOf, setFrom, DV.isU, lenMax, lenCap, Nat.reduceEqDiff, Nat.reduceAdd, ↓reduceIte, reduceCtorEq, Nat.reduceSub, Int.reduceToNat, Int.reducePow, Nat.reducePow, Int.reduceLE, Int.reduceLT, Nat.reduceLeDiff, Nat.reduceLT, Int.reduceBEq, Int.reduceBNe, Int.reduceEq, Int.reduceNe, Int.reduceAdd, Int.reduceSub, Int.reduceMul, Int.reduceNeg, Int.reduceTDiv, Int.reduceTMod, Int.reduceMod, Int.reduceDiv, Nat.reduceMul, forall_const, implies_true, d_noriaref06_Digits, eIls, eRows, eSs, eY, sls_len, ils_len, ils_rowsT, sls_rowsT, sls_tk0, ils_tk0, eb, eq1, strMax , hcondQ]) | (simp (disch := omega) only [i64_id, u64_id, u8_id, getD_map'])))) | ((with_reducible refine And.intro ?_ ?_); · first | trivial | omega | (simp; done) | (simp; omega)) | ((first | ((with_reducible refine dwp_condI (t := ?_) ?_ (fun hcQ => ?_) (fun hcQ => ?_)); rotate_left; · rfl) | ((with_reducible refine dops_guardI (t := ?_) ?_ (fun hcQ => ?_) (fun hcQ => ?_)); rotate_left; · rfl)) <;> (have hn := hcQ; have hcondQ := hcQ) <;> (try simp only [decide_eq_true_eq, decide_eq_false_iff_not, beq_iff_eq, bne_iff_ne, ne_eq, Bool.and_eq_true, Bool.or_eq_true, Bool.not_eq_true, Bool.not_eq_false, beq_eq_false_iff_ne, bne_eq_false_iff_eq, Bool.not_eq_true', Bool.not_eq_false', Int.ofNat_lt, Int.ofNat_le, Bool.or_eq_false_iff, Bool.and_eq_false_imp, Decidable.not_not, gt_iff_lt, ge_iff_le] at hn) <;> (try (exfalso; omega)) <;> (refine Todo.of ?_)) | (((with_reducible refine dwp_condA ?_ ?_ ?_); · rfl) <;> (refine Todo.of ?_)))) <;> (try (first | (with_reducible rfl) | exact Nat.le_refl _ | exact Int.le_refl _ | assumption | omega))
      all_goals first
        | omega
        | (refine ⟨(0, [48]), ?_, ⟨by simp, (dgt_step 0 [] (.inr rfl)).trans hx2⟩, by simp⟩
           simp only [cut_some, cut_none, List.map_cons, List.map_nil, get_cons, Nk.get_nil, Nat.reduceEqDiff, ↓reduceIte, Nat.succ_ne_self, DV.cut, DV.inB, DObj.cut, List.take_nil, List.take_zero, if_true, Nat.zero_ne_one, Nat.one_ne_zero, DV.inBL, Bool.and_true, Bool.true_and, reduceCtorEq, Nat.zero_lt_one, decide_true, decide_false, Nat.reduceLT, List.take_succ_cons]
           rfl)
    · rw [dgt_end s s1] at hx2
      have s2 : (s == []) = false := by simpa using s1
      rw [hit, ← hx2]
      (have hcondQ := Bool.and_self; refine Todo.of ?_); (repeat' (first | ((with_reducible refine Todo.to ?_); (repeat (first | (simp only [↓rP, rT, rU, eI, eU, eB, eS, eBs, eL, eA, buildCells, sepsD, sepB, hdl, dvalX, DOp.kind, dval, frameFrom, dBin, dInt, dStr, dBeq, dUn, dLoad, cellsAt, retV, retL, DR.val, fzT, fzVs, fzV, fz1, DV.immB, IntKind.bits, dCallP, viewVs, viewV, view1, capVL, capV, viewL, noMemV, noMem, elemsOf, dAppend, dAppz, dStore, DV.one, alive, freezeAt, fzLL, fzL, bRow, bU, cellsOf, setFrom, DV.isU, lenMax, lenCap, Nat.reduceEqDiff, Nat.reduceAdd, ↓reduceIte, reduceCtorEq, Nat.reduceSub, Int.reduceToNat, Int.reducePow, Nat.reducePow, Int.reduceLE, Int.reduceLT, Nat.reduceLeDiff, Nat.reduceLT, Int.reduceBEq, Int.reduceBNe, Int.reduceEq, Int.reduceNe, Int.reduceAdd, Int.reduceSub, Int.reduceMul, Int.reduceNeg, Int.reduceTDiv, Int.reduceTMod, Int.reduceMod, Int.reduceDiv, Nat.reduceMul, forall_const, implies_true, d_noriaref06_Digits, eIls, eRows, eSs, eY, sls_len, ils_len, ils_rowsT, sls_rowsT, sls_tk0, ils_tk0, s2, h0, strMax, sm , hcondQ]) | (simp (disch := omega) only [i64_id, u64_id, u8_id, getD_map'])))) | ((with_reducible refine And.intro ?_ ?_); · first | trivial | omega | (simp; done) | (simp; omega)) | ((first | ((with_reducible refine dwp_condI (t := ?_) ?_ (fun hcQ => ?_) (fun hcQ => ?_)); rotate_left; · rfl) | ((with_reducible refine dops_guardI (t := ?_) ?_ (fun hcQ => ?_) (fun hcQ => ?_)); rotate_left; · rfl)) <;> (have hn := hcQ; have hcondQ := hcQ) <;> (try simp only [decide_eq_true_eq, decide_eq_false_iff_not, beq_iff_eq, bne_iff_ne, ne_eq, Bool.and_eq_true, Bool.or_eq_true, Bool.not_eq_true, Bool.not_eq_false, beq_eq_false_iff_ne, bne_eq_false_iff_eq, Bool.not_eq_true', Bool.not_eq_false', Int.ofNat_lt, Int.ofNat_le, Bool.or_eq_false_iff, Bool.and_eq_false_imp, Decidable.not_not, gt_iff_lt, ge_iff_le] at hn) <;> (try (exfalso; omega)) <;> (refine Todo.of ?_)) | (((with_reducible refine dwp_condA ?_ ?_ ?_); · rfl) <;> (refine Todo.of ?_)))) <;> (try (first | (with_reducible rfl) | exact Nat.le_refl _ | exact Int.le_refl _ | assumption | omega))
end Go.Proofs.YtnbmpdhgejppaaaDoor

/- Numbers are known by their digits; what stands apart. -/
set_option linter.all false
set_option maxRecDepth 20000
namespace Go.Proofs.YtnbmpdhgejppaaaDoor
open Go.Nk

/-! Numbers by their digits. -/
def valD (l : List UInt8) : Nat := l.foldl (fun a d => a * 10 + (d.toNat - 48)) 0
theorem digit_val {d : Nat} (h : d < 10) : (UInt8.ofNat (48 + d)).toNat = 48 + d := by
  rw [UInt8.toNat_ofNat']; omega
theorem valD_snoc (l : List UInt8) (d : UInt8) : valD (l ++ [d]) = valD l * 10 + (d.toNat - 48) := by simp [valD]
theorem valD_dec : ∀ u : Nat, valD (Lib.decDigits u) = u := by
  intro u
  induction u using Nat.strongRecOn with
  | _ u ih =>
    rw [Lib.decDigits]
    split
    · rename_i h
      have := digit_val h
      show 0 * 10 + ((UInt8.ofNat (48 + u)).toNat - 48) = u
      rw [this]; omega
    · rw [valD_snoc, ih (u / 10) (by omega), digit_val (by omega)]; omega
def isDig (c : UInt8) : Bool := decide (48 ≤ c.toNat) && decide (c.toNat ≤ 57)
theorem dec_dig : ∀ u : Nat, ∀ c ∈ Lib.decDigits u, isDig c = true := by
  intro u
  induction u using Nat.strongRecOn with
  | _ u ih =>
    rw [Lib.decDigits]
    split
    · rename_i h
      intro c hc
      simp only [List.mem_singleton] at hc
      subst hc
      have := digit_val h
      simp [isDig, this]; omega
    · intro c hc
      rcases List.mem_append.1 hc with hc | hc
      · exact ih (u / 10) (by omega) c hc
      · simp only [List.mem_singleton] at hc
        subst hc
        have := digit_val (d := u % 10) (by omega)
        simp [isDig, this]; omega
theorem itoa_inj {n m : Int} (h : Lib.itoa n = Lib.itoa m) : n = m := by
  have key : ∀ u v : Nat, (45 : UInt8) :: Lib.decDigits u ≠ Lib.decDigits v := fun u v e => by
    have := dec_dig v 45 (by rw [← e]; exact List.mem_cons_self)
    exact absurd this (by decide)
  unfold Lib.itoa at h
  by_cases h1 : n < 0 <;> by_cases h2 : m < 0
  · rw [if_pos h1, if_pos h2] at h
    injection h with _ h
    have := congrArg valD h
    rw [valD_dec, valD_dec] at this
    omega
  · rw [if_pos h1, if_neg h2] at h; exact absurd h (key _ _)
  · rw [if_neg h1, if_pos h2] at h; exact absurd h.symm (key _ _)
  · rw [if_neg h1, if_neg h2] at h
    have := congrArg valD h
    rw [valD_dec, valD_dec] at this
    omega
theorem itoa_no (c : UInt8) (hc : isDig c = false) (h45 : c ≠ 45) (n : Int) : ∀ x ∈ Lib.itoa n, (x != c) = true := by
  have key : ∀ u : Nat, ∀ x ∈ Lib.decDigits u, (x != c) = true := fun u x hx => by
    have := dec_dig u x hx
    simp only [bne_iff_ne, ne_eq]
    rintro rfl
    rw [this] at hc; cases hc
  unfold Lib.itoa
  split
  · intro x hx
    rcases List.mem_cons.1 hx with rfl | hx
    · simpa [bne_iff_ne] using fun e => h45 e.symm
    · exact key _ x hx
  · exact key _
/-! What stands apart. -/
theorem splitC {c : UInt8} {b1 b2 s1 s2 : List UInt8} (h1 : ∀ x ∈ b1, (x != c) = true) (h2 : ∀ x ∈ b2, (x != c) = true) (e1 : s1 = [] ∨ ∃ r, s1 = c :: r) (e2 : s2 = [] ∨ ∃ r, s2 = c :: r)
    (h : b1 ++ s1 = b2 ++ s2) : b1 = b2 ∧ s1 = s2 := by
  have key : ∀ (b s : List UInt8), (∀ x ∈ b, (x != c) = true) → (s = [] ∨ ∃ r, s = c :: r) → (b ++ s).takeWhile (· != c) = b := by
    intro b s hb hs
    rw [List.takeWhile_append_of_pos hb]
    rcases hs with rfl | ⟨r, rfl⟩
    · simp
    · simp
  have e := key b1 s1 h1 e1
  rw [h, key b2 s2 h2 e2] at e
  exact ⟨e.symm, by rw [e] at h; exact List.append_cancel_left h⟩
theorem tail_form (c : UInt8) (r : List (List UInt8)) : Lib.joinTail [c] r = [] ∨ ∃ q, Lib.joinTail [c] r = c :: q := by
  cases r with
  | nil => exact .inl rfl
  | cons y r => exact .inr ⟨y ++ Lib.joinTail [c] r, by simp [Lib.joinTail]⟩
end Go.Proofs.YtnbmpdhgejppaaaDoor

