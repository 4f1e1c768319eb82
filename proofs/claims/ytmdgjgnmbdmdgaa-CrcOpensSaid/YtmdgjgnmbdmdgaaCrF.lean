/- The page's example; CrcOpens. -/
import Derived.Test.YtmdgjgnmbdmdgaaCrE
set_option linter.all false
set_option maxRecDepth 20000
namespace Go.Proofs.Ytmdgjgnmbdmdgaa
open Go.Nk Crc0
noncomputable def s_live : List DV → Prop × DV := spec0 (True, .bool true)
theorem s_live_at : s_live [] = (True, .bool true) := spec0_at _
def liveL : List UInt8 := [49, 50, 51, 52, 53, 54, 55, 56, 57]
theorem live_sum : ((crcF liveL).toNat : Int) = 3421780262 := by kernel_rfl
theorem ok_norialaw02_live : OkP Try.prog 6 s_live := by
  refine OkP.mk0 (ps := [(11, s_Of)]) (hs := []) ⟨ok_crc_Of, trivial⟩ trivial m_norialaw02_live fun _ => ?_
  have e := s_Of_at liveL
  rw [live_sum] at e
  have h : liveL.length ≤ 4294967296 := by decide
  simp only [h] at e
  have e2 : bsl liveL = [[.int .u8 49], [.int .u8 50], [.int .u8 51], [.int .u8 52], [.int .u8 53], [.int .u8 54], [.int .u8 55], [.int .u8 56], [.int .u8 57]] := by rfl
  rw [e2] at e
  (have hcondQ := Bool.and_self; refine Todo.of ?_); (repeat' (first | ((with_reducible refine Todo.to ?_); (repeat (first | (simp only [↓rP, rT, rU, eI, eU, eB, eS, eBs, eL, eA, buildCells, sepsD, sepB, hdl, dvalX, DOp.kind, dval, frameFrom, dBin, dInt, dStr, dBeq, dUn, dLoad, cellsAt, retV, retL, DR.val, fzT, fzVs, fzV, fz1, DV.immB, IntKind.bits, dCallP, viewVs, viewV, view1, capVL, capV, viewL, noMemV, noMem, elemsOf, dAppend, dAppz, dStore, DV.one, alive, freezeAt, fzLL, fzL, bRow, bU, cellsOf, setFrom, DV.isU, lenMax, lenCap, Nat.reduceEqDiff, Nat.reduceAdd, ↓reduceIte, reduceCtorEq, Nat.reduceSub, Int.reduceToNat, Int.reducePow, Nat.reducePow, Int.reduceLE, Int.reduceLT, Nat.reduceLeDiff, Nat.reduceLT, Int.reduceBEq, Int.reduceBNe, Int.reduceEq, Int.reduceNe, Int.reduceAdd, Int.reduceSub, Int.reduceMul, Int.reduceNeg, Int.reduceTDiv, Int.reduceTMod, Int.reduceMod, Int.reduceDiv, Nat.reduceMul, forall_const, implies_true, d_norialaw02_live, s_Of_at, eBss, eIls, eRows, eSs, eW32, eY, sls_len, ils_len, ils_rowsT, sls_rowsT, sls_tk0, ils_tk0, bsl_length, bsl_tk, bsl_rowsT, e , hcondQ]) | (simp (disch := omega) only [i64_id, u64_id, u8_id, getD_map'])))) | ((with_reducible refine And.intro ?_ ?_); · first | trivial | omega | (simp; done) | (simp; omega)) | ((first | ((with_reducible refine dwp_condI (t := ?_) ?_ (fun hcQ => ?_) (fun hcQ => ?_)); rotate_left; · rfl) | ((with_reducible refine dops_guardI (t := ?_) ?_ (fun hcQ => ?_) (fun hcQ => ?_)); rotate_left; · rfl)) <;> (have hn := hcQ; have hcondQ := hcQ) <;> (try simp only [decide_eq_true_eq, decide_eq_false_iff_not, beq_iff_eq, bne_iff_ne, ne_eq, Bool.and_eq_true, Bool.or_eq_true, Bool.not_eq_true, Bool.not_eq_false, beq_eq_false_iff_ne, bne_eq_false_iff_eq, Bool.not_eq_true', Bool.not_eq_false', Int.ofNat_lt, Int.ofNat_le, Bool.or_eq_false_iff, Bool.and_eq_false_imp, Decidable.not_not, gt_iff_lt, ge_iff_le] at hn) <;> (try (exfalso; omega)) <;> (refine Todo.of ?_)) | (((with_reducible refine dwp_condA ?_ ?_ ?_); · rfl) <;> (refine Todo.of ?_)))) <;> (try (first | (with_reducible rfl) | exact Nat.le_refl _ | exact Int.le_refl _ | assumption | omega))

theorem openF_len {b x : List UInt8} (h : openF b = some x) : x.length + 4 = b.length := by
  unfold openF at h
  split at h
  · injection h with h; subst h; simp; omega
  · cases h
theorem openB_len (b : List UInt8) : (openB b).length ≤ b.length := by
  unfold openB
  cases h : openF b with
  | none => simp
  | some x => have := openF_len h; simp; omega
theorem sealF_len (b : List UInt8) : (sealF b).length = b.length + 4 := by simp [sealF, tl_len]
noncomputable def s_lawOpens : List DV → Prop × DV := spec1 eBs fun b => (b.length ≤ 4611686018427387904, .bool true)
theorem s_lawOpens_at (b : List UInt8) : s_lawOpens [.sl (bsl b)] = (b.length ≤ 4611686018427387904, .bool true) := spec1_at inj_Bs _ b
theorem ok_norialaw02_CrcOpens : OkP Try.prog 4 s_lawOpens := by
  refine OkP.mk1 (ps := [(6, s_live), (12, s_Open), (13, s_rOpen), (15, s_Seal), (16, s_rSeal), (14, (specB2 fSame))]) (hs := []) ⟨ok_norialaw02_live, ok_crc_Open, ok_noriaref02_Open, ok_crc_Seal, ok_noriaref02_Seal, ok_noriaref01_Same, trivial⟩ trivial m_norialaw02_CrcOpens fun b h => ?_
  try dsimp only at h
  have h : b.length ≤ 4611686018427387904 := h
  by_cases d : (1000 : Int) < b.length
  · (have hcondQ := Bool.and_self; refine Todo.of ?_); (repeat' (first | ((with_reducible refine Todo.to ?_); (repeat (first | (simp only [↓rP, rT, rU, eI, eU, eB, eS, eBs, eL, eA, buildCells, sepsD, sepB, hdl, dvalX, DOp.kind, dval, frameFrom, dBin, dInt, dStr, dBeq, dUn, dLoad, cellsAt, retV, retL, DR.val, fzT, fzVs, fzV, fz1, DV.immB, IntKind.bits, dCallP, viewVs, viewV, view1, capVL, capV, viewL, noMemV, noMem, elemsOf, dAppend, dAppz, dStore, DV.one, alive, freezeAt, fzLL, fzL, bRow, bU, cellsOf, setFrom, DV.isU, lenMax, lenCap, Nat.reduceEqDiff, Nat.reduceAdd, ↓reduceIte, reduceCtorEq, Nat.reduceSub, Int.reduceToNat, Int.reducePow, Nat.reducePow, Int.reduceLE, Int.reduceLT, Nat.reduceLeDiff, Nat.reduceLT, Int.reduceBEq, Int.reduceBNe, Int.reduceEq, Int.reduceNe, Int.reduceAdd, Int.reduceSub, Int.reduceMul, Int.reduceNeg, Int.reduceTDiv, Int.reduceTMod, Int.reduceMod, Int.reduceDiv, Nat.reduceMul, forall_const, implies_true, d_norialaw02_CrcOpens, s_live_at, s_Open_at, s_rOpen_at, s_Seal_at, s_rSeal_at, eBss, eIls, eRows, eSs, eW32, eY, sls_len, ils_len, ils_rowsT, sls_rowsT, sls_tk0, ils_tk0, bsl_length, bsl_tk, bsl_rowsT, d , hcondQ]) | (simp (disch := omega) only [i64_id, u64_id, u8_id, getD_map'])))) | ((with_reducible refine And.intro ?_ ?_); · first | trivial | omega | (simp; done) | (simp; omega)) | ((first | ((with_reducible refine dwp_condI (t := ?_) ?_ (fun hcQ => ?_) (fun hcQ => ?_)); rotate_left; · rfl) | ((with_reducible refine dops_guardI (t := ?_) ?_ (fun hcQ => ?_) (fun hcQ => ?_)); rotate_left; · rfl)) <;> (have hn := hcQ; have hcondQ := hcQ) <;> (try simp only [decide_eq_true_eq, decide_eq_false_iff_not, beq_iff_eq, bne_iff_ne, ne_eq, Bool.and_eq_true, Bool.or_eq_true, Bool.not_eq_true, Bool.not_eq_false, beq_eq_false_iff_ne, bne_eq_false_iff_eq, Bool.not_eq_true', Bool.not_eq_false', Int.ofNat_lt, Int.ofNat_le, Bool.or_eq_false_iff, Bool.and_eq_false_imp, Decidable.not_not, gt_iff_lt, ge_iff_le] at hn) <;> (try (exfalso; omega)) <;> (refine Todo.of ?_)) | (((with_reducible refine dwp_condA ?_ ?_ ?_); · rfl) <;> (refine Todo.of ?_)))) <;> (try (first | (with_reducible rfl) | exact Nat.le_refl _ | exact Int.le_refl _ | assumption | omega))
  have h1 : b.length ≤ 100000000 := by omega
  have l1 := openB_len b
  have l2 := sealF_len b
  have k1 : (openB b).length < 9223372036854775808 := by omega
  have k2 : (sealF b).length < 9223372036854775808 := by omega
  (have hcondQ := Bool.and_self; refine Todo.of ?_); (repeat' (first | ((with_reducible refine Todo.to ?_); (repeat (first | (simp only [↓rP, rT, rU, eI, eU, eB, eS, eBs, eL, eA, buildCells, sepsD, sepB, hdl, dvalX, DOp.kind, dval, frameFrom, dBin, dInt, dStr, dBeq, dUn, dLoad, cellsAt, retV, retL, DR.val, fzT, fzVs, fzV, fz1, DV.immB, IntKind.bits, dCallP, viewVs, viewV, view1, capVL, capV, viewL, noMemV, noMem, elemsOf, dAppend, dAppz, dStore, DV.one, alive, freezeAt, fzLL, fzL, bRow, bU, cellsOf, setFrom, DV.isU, lenMax, lenCap, Nat.reduceEqDiff, Nat.reduceAdd, ↓reduceIte, reduceCtorEq, Nat.reduceSub, Int.reduceToNat, Int.reducePow, Nat.reducePow, Int.reduceLE, Int.reduceLT, Nat.reduceLeDiff, Nat.reduceLT, Int.reduceBEq, Int.reduceBNe, Int.reduceEq, Int.reduceNe, Int.reduceAdd, Int.reduceSub, Int.reduceMul, Int.reduceNeg, Int.reduceTDiv, Int.reduceTMod, Int.reduceMod, Int.reduceDiv, Nat.reduceMul, forall_const, implies_true, d_norialaw02_CrcOpens, s_live_at, s_Open_at, s_rOpen_at, s_Seal_at, s_rSeal_at, eBss, eIls, eRows, eSs, eW32, eY, sls_len, ils_len, ils_rowsT, sls_rowsT, sls_tk0, ils_tk0, bsl_length, bsl_tk, bsl_rowsT, d, h1, fSame, small, k1, k2 , hcondQ]) | (simp (disch := omega) only [i64_id, u64_id, u8_id, getD_map'])))) | ((with_reducible refine And.intro ?_ ?_); · first | trivial | omega | (simp; done) | (simp; omega)) | ((first | ((with_reducible refine dwp_condI (t := ?_) ?_ (fun hcQ => ?_) (fun hcQ => ?_)); rotate_left; · rfl) | ((with_reducible refine dops_guardI (t := ?_) ?_ (fun hcQ => ?_) (fun hcQ => ?_)); rotate_left; · rfl)) <;> (have hn := hcQ; have hcondQ := hcQ) <;> (try simp only [decide_eq_true_eq, decide_eq_false_iff_not, beq_iff_eq, bne_iff_ne, ne_eq, Bool.and_eq_true, Bool.or_eq_true, Bool.not_eq_true, Bool.not_eq_false, beq_eq_false_iff_ne, bne_eq_false_iff_eq, Bool.not_eq_true', Bool.not_eq_false', Int.ofNat_lt, Int.ofNat_le, Bool.or_eq_false_iff, Bool.and_eq_false_imp, Decidable.not_not, gt_iff_lt, ge_iff_le] at hn) <;> (try (exfalso; omega)) <;> (refine Todo.of ?_)) | (((with_reducible refine dwp_condA ?_ ?_ ?_); · rfl) <;> (refine Todo.of ?_)))) <;> (try (first | (with_reducible rfl) | exact Nat.le_refl _ | exact Int.le_refl _ | assumption | omega))
theorem crcOpens_tells (dvs : List DV) (h : HasAll Try.prog [24] dvs) : TellsP Try.prog 4 dvs (.bool true) := by
  obtain ⟨d1, r, rfl, h1, rfl⟩ := h
  obtain ⟨b, hb, hl⟩ := HasV_one (by kernel_rfl) rfl Reads.bytes h1
  injection hb with hb
  subst hb
  have e := s_lawOpens_at b
  have := (ok_norialaw02_CrcOpens _ (by rw [e]; show b.length ≤ _; unfold capLen at hl; omega)).2
  rw [e] at this
  exact this
end Go.Proofs.Ytmdgjgnmbdmdgaa
