/- SlotNobody. -/
import Derived.Test.YtfjddinibppmdaaSlI
set_option linter.all false
set_option maxRecDepth 20000
namespace Go.Proofs.Ytfjddinibppmdaa
open Go.Nk

theorem reads_Ss : Reads (.slice .str) (fun l : List (List UInt8) => [.sl (sls l)]) (fun _ => True) :=
  Reads.as (Reads.slice Reads.str) (fun l => l) (fun _ => rfl) (fun _ _ => trivial)
theorem reads_Is : Reads (.slice (.int .i64)) (fun l : List Int => [.sl (ils l)]) (fun l => l.length ≤ capLen) :=
  Reads.as (Reads.slice Reads.int) (fun l => l) (fun _ => rfl) (fun _ h => h.1)
theorem reads_En : Reads (.struct [.str, .slice .str]) cEn (fun _ => True) :=
  Reads.as (Reads.struct (Reads.cons Reads.str (Reads.cons reads_Ss Reads.nil))) (fun x => ⟨x.1, x.2.1⟩) (fun _ => rfl) (fun _ _ => trivial)
@[reducible] def shTy : Sh := .struct [.int .i64, .int .i64, .int .i64]
theorem reads_Ty : Reads shTy cTy (fun _ => True) :=
  Reads.as (Reads.struct (Reads.cons Reads.int (Reads.cons Reads.int (Reads.cons Reads.int Reads.nil)))) (fun x => ⟨x.1, x.2.1, x.2.2.1⟩) (fun _ => rfl) (fun _ _ => trivial)
theorem reads_Prt : Reads (.struct [.str, shTy]) cPrt (fun _ => True) :=
  Reads.as (Reads.struct (Reads.cons Reads.str (Reads.cons reads_Ty Reads.nil))) (fun x => ⟨x.1, x.2.1⟩) (fun _ => rfl) (fun _ _ => trivial)
theorem reads_Slt : Reads (.struct [.str, shTy, .int .i64, .slice (.int .i64)]) cSlt (fun _ => True) :=
  Reads.as (Reads.struct (Reads.cons Reads.str (Reads.cons reads_Ty (Reads.cons Reads.int (Reads.cons reads_Is Reads.nil))))) (fun x => ⟨x.1, x.2.1, x.2.2.1, x.2.2.2.1⟩) (fun _ => rfl) (fun _ _ => trivial)
theorem reads_In4 : Reads (.struct [.int .i64, .int .i64, .int .i64, .int .i64]) cIn4 (fun _ => True) :=
  Reads.as (Reads.struct (Reads.cons Reads.int (Reads.cons Reads.int (Reads.cons Reads.int (Reads.cons Reads.int Reads.nil))))) (fun x => ⟨x.1, x.2.1, x.2.2.1, x.2.2.2.1⟩) (fun _ => rfl) (fun _ _ => trivial)
@[reducible] def shImg : Sh := .struct [.slice (.struct [.str, .slice .str]), .slice (.struct [.str, shTy]), .slice (.struct [.str, shTy]), .slice (.struct [.str, shTy, .int .i64, .slice (.int .i64)]), .slice (.int .i64), .slice (.struct [.int .i64, .int .i64, .int .i64, .int .i64])]
theorem reads_Img : Reads shImg cImg okLen :=
  Reads.as (Reads.struct (Reads.cons (Reads.slice reads_En) (Reads.cons (Reads.slice reads_Prt) (Reads.cons (Reads.slice reads_Prt) (Reads.cons (Reads.slice reads_Slt) (Reads.cons reads_Is (Reads.cons (Reads.slice reads_In4) Reads.nil)))))))
    (fun x => ⟨x.1, x.2.1, x.2.2.1, x.2.2.2.1, x.2.2.2.2.1, x.2.2.2.2.2.1⟩) (fun _ => rfl) (fun x h => by
      have h1 := h.2.1.1
      have h2 := h.2.2.1.1
      simp only [capLen] at h1 h2
      exact ⟨by simp only; omega, by simp only; omega⟩)

@[reducible] def oF : DObj := ⟨.loc, 19, [[.bool false, .bool false, .sl [], .sl [], .sl [], .sl [], .sl [], .sl [], .nil, .bool false, .sl [], .sl [], .sl [], .sl [], .sl [], .sl [], .nil, .int .i64 0, .int .i64 0]]⟩
noncomputable def s_lawNobody : List DV → Prop × DV := spec2 eImg eIls fun x v => (okLen x, .bool true)
theorem s_lawNobody_at (x : Img) (v : List Int) : s_lawNobody [.agg (cImg x), .sl (ils v)] = (okLen x, .bool true) := spec2_at inj_Img inj_Ils _ x v
set_option maxHeartbeats 2000000 in
theorem ok_norialaw42_SlotNobody : OkP Try.prog 5 s_lawNobody := by
  refine OkP.mk2 (ps := [(22, s_Few), (7, s_liveS)]) (hs := [(15, s_Drop), (10, s_Active), (9, s_Load), (23, s_Keep), (11, s_Stage), (13, s_Write), (14, s_Commit), (19, s_Staged), (21, s_Commits)])
    ⟨ok_noriaref33_Few, ok_norialaw42_live, trivial⟩ ⟨ok_Drop, ok_Active, ok_Load, ok_Keep, ok_Stage, ok_Write, ok_Commit, ok_Staged, ok_Commits, trivial⟩ m_norialaw42_SlotNobody fun x v h => ?_
  have h : okLen x := h
  have ef := s_Few_at x
  rw [eq_true h] at ef
  have el := s_liveS_at
  
  cases c : fewF x
  · rw [c] at ef
    (have hcondQ := Bool.and_self; refine Todo.of ?_); (repeat' (first | ((with_reducible refine Todo.to ?_); (repeat (first | (simp only [↓rP, rT, rU, eI, eU, eB, eS, eBs, eL, eA, buildCells, sepsD, sepB, hdl, dvalX, DOp.kind, dval, frameFrom, dBin, dInt, dStr, dBeq, dUn, dLoad, cellsAt, retV, retL, DR.val, fzT, fzVs, fzV, fz1, DV.immB, IntKind.bits, dCallP, viewVs, viewV, view1, capVL, capV, viewL, noMemV, noMem, elemsOf, dAppend, dAppz, dStore, DV.one, alive, freezeAt, fzLL, fzL, bRow, bU, cellsOf, setFrom, DV.isU, lenMax, lenCap, Nat.reduceEqDiff, Nat.reduceAdd, ↓reduceIte, reduceCtorEq, Nat.reduceSub, Int.reduceToNat, Int.reducePow, Nat.reducePow, Int.reduceLE, Int.reduceLT, Nat.reduceLeDiff, Nat.reduceLT, Int.reduceBEq, Int.reduceBNe, Int.reduceEq, Int.reduceNe, Int.reduceAdd, Int.reduceSub, Int.reduceMul, Int.reduceNeg, Int.reduceTDiv, Int.reduceTMod, Int.reduceMod, Int.reduceDiv, Nat.reduceMul, forall_const, implies_true, d_norialaw42_SlotNobody, s_Few_at, eEns, eIls, eImg, ePrt, ePrts, eRows, eSs, eTy, eVn, eY, sls_len, ils_len, ils_rowsT, sls_rowsT, sls_tk0, ils_tk0, ef, el , hcondQ]) | (simp (disch := omega) only [i64_id, u64_id, u8_id, getD_map'])))) | ((with_reducible refine And.intro ?_ ?_); · first | trivial | omega | (simp; done) | (simp; omega)) | ((first | ((with_reducible refine dwp_condI (t := ?_) ?_ (fun hcQ => ?_) (fun hcQ => ?_)); rotate_left; · rfl) | ((with_reducible refine dops_guardI (t := ?_) ?_ (fun hcQ => ?_) (fun hcQ => ?_)); rotate_left; · rfl)) <;> (have hn := hcQ; have hcondQ := hcQ) <;> (try simp only [decide_eq_true_eq, decide_eq_false_iff_not, beq_iff_eq, bne_iff_ne, ne_eq, Bool.and_eq_true, Bool.or_eq_true, Bool.not_eq_true, Bool.not_eq_false, beq_eq_false_iff_ne, bne_eq_false_iff_eq, Bool.not_eq_true', Bool.not_eq_false', Int.ofNat_lt, Int.ofNat_le, Bool.or_eq_false_iff, Bool.and_eq_false_imp, Decidable.not_not, gt_iff_lt, ge_iff_le] at hn) <;> (try (exfalso; omega)) <;> (refine Todo.of ?_)) | (((with_reducible refine dwp_condA ?_ ?_ ?_); · rfl) <;> (refine Todo.of ?_)))) <;> (try (first | (with_reducible rfl) | exact Nat.le_refl _ | exact Int.le_refl _ | assumption | omega))
  rw [c] at ef
  have fe := few_E c
  by_cases q : 1200 < v.length
  · have q2 : (1200 : Int) < v.length := by omega
    (have hcondQ := Bool.and_self; refine Todo.of ?_); (repeat' (first | ((with_reducible refine Todo.to ?_); (repeat (first | (simp only [↓rP, rT, rU, eI, eU, eB, eS, eBs, eL, eA, buildCells, sepsD, sepB, hdl, dvalX, DOp.kind, dval, frameFrom, dBin, dInt, dStr, dBeq, dUn, dLoad, cellsAt, retV, retL, DR.val, fzT, fzVs, fzV, fz1, DV.immB, IntKind.bits, dCallP, viewVs, viewV, view1, capVL, capV, viewL, noMemV, noMem, elemsOf, dAppend, dAppz, dStore, DV.one, alive, freezeAt, fzLL, fzL, bRow, bU, cellsOf, setFrom, DV.isU, lenMax, lenCap, Nat.reduceEqDiff, Nat.reduceAdd, ↓reduceIte, reduceCtorEq, Nat.reduceSub, Int.reduceToNat, Int.reducePow, Nat.reducePow, Int.reduceLE, Int.reduceLT, Nat.reduceLeDiff, Nat.reduceLT, Int.reduceBEq, Int.reduceBNe, Int.reduceEq, Int.reduceNe, Int.reduceAdd, Int.reduceSub, Int.reduceMul, Int.reduceNeg, Int.reduceTDiv, Int.reduceTMod, Int.reduceMod, Int.reduceDiv, Nat.reduceMul, forall_const, implies_true, d_norialaw42_SlotNobody, s_Few_at, eEns, eIls, eImg, ePrt, ePrts, eRows, eSs, eTy, eVn, eY, sls_len, ils_len, ils_rowsT, sls_rowsT, sls_tk0, ils_tk0, ef, el, q2, ils_len , hcondQ]) | (simp (disch := omega) only [i64_id, u64_id, u8_id, getD_map'])))) | ((with_reducible refine And.intro ?_ ?_); · first | trivial | omega | (simp; done) | (simp; omega)) | ((first | ((with_reducible refine dwp_condI (t := ?_) ?_ (fun hcQ => ?_) (fun hcQ => ?_)); rotate_left; · rfl) | ((with_reducible refine dops_guardI (t := ?_) ?_ (fun hcQ => ?_) (fun hcQ => ?_)); rotate_left; · rfl)) <;> (have hn := hcQ; have hcondQ := hcQ) <;> (try simp only [decide_eq_true_eq, decide_eq_false_iff_not, beq_iff_eq, bne_iff_ne, ne_eq, Bool.and_eq_true, Bool.or_eq_true, Bool.not_eq_true, Bool.not_eq_false, beq_eq_false_iff_ne, bne_eq_false_iff_eq, Bool.not_eq_true', Bool.not_eq_false', Int.ofNat_lt, Int.ofNat_le, Bool.or_eq_false_iff, Bool.and_eq_false_imp, Decidable.not_not, gt_iff_lt, ge_iff_le] at hn) <;> (try (exfalso; omega)) <;> (refine Todo.of ?_)) | (((with_reducible refine dwp_condA ?_ ?_ ?_); · rfl) <;> (refine Todo.of ?_)))) <;> (try (first | (with_reducible rfl) | exact Nat.le_refl _ | exact Int.le_refl _ | assumption | omega))
  have q2 : ¬ (1200 : Int) < v.length := by omega
  have hx : okXL x v := ⟨fe.2.2.2.1, by omega⟩
  have r : ∀ t, Rep (oF :: t) 0 false qZ := fun t => rep_z (hp := []) (t := t)
  have n1 := fun t => s_Drop_nil (hp := t)
  have n2 := fun t => s_Active_nil (hp := t)
  have n3 := fun t => s_Load_nil (hp := t) (x := x) (l := v)
  have n4 := fun t => s_Keep_nil (hp := t) (l := v)
  have n5 := fun t => s_Stage_nil (hp := t) (x := x)
  have n6 := fun t => s_Write_nil (hp := t) (l := v)
  have n7 := fun t => s_Commit_nil (hp := t)
  have n8 := fun t => s_Staged_nil (hp := t)
  have n9 := fun t => s_Commits_nil (hp := t)
  have o1 := fun t => s_Drop_no (r t)
  have o2 := fun t => s_Active_no (r t)
  have o3 := fun t => s_Load_no (x := x) (l := v) (r t)
  have o4 := fun t => s_Keep_no (l := v) (r t)
  have o5 := fun t => s_Stage_no (x := x) (r t)
  have o6 := fun t => s_Write_no (l := v) (r t)
  have o7 := fun t => s_Commit_no (r t)
  have o8 := fun t => s_Staged_at (r t)
  have o9 := fun t => s_Commits_at (r t)
  simp only [eq_true hx] at n3 o3
  simp only [stF, cmF, Bool.false_and, Bool.false_eq_true, if_false] at o8 o9
  have ez : cImg imgZ = [.sl [], .sl [], .sl [], .sl [], .sl [], .sl []] := rfl
  simp only [acNo, ez] at n2 o2
  (have hcondQ := Bool.and_self; refine Todo.of ?_); (repeat' (first | ((with_reducible refine Todo.to ?_); (repeat (first | (simp only [↓rP, rT, rU, eI, eU, eB, eS, eBs, eL, eA, buildCells, sepsD, sepB, hdl, dvalX, DOp.kind, dval, frameFrom, dBin, dInt, dStr, dBeq, dUn, dLoad, cellsAt, retV, retL, DR.val, fzT, fzVs, fzV, fz1, DV.immB, IntKind.bits, dCallP, viewVs, viewV, view1, capVL, capV, viewL, noMemV, noMem, elemsOf, dAppend, dAppz, dStore, DV.one, alive, freezeAt, fzLL, fzL, bRow, bU, cellsOf, setFrom, DV.isU, lenMax, lenCap, Nat.reduceEqDiff, Nat.reduceAdd, ↓reduceIte, reduceCtorEq, Nat.reduceSub, Int.reduceToNat, Int.reducePow, Nat.reducePow, Int.reduceLE, Int.reduceLT, Nat.reduceLeDiff, Nat.reduceLT, Int.reduceBEq, Int.reduceBNe, Int.reduceEq, Int.reduceNe, Int.reduceAdd, Int.reduceSub, Int.reduceMul, Int.reduceNeg, Int.reduceTDiv, Int.reduceTMod, Int.reduceMod, Int.reduceDiv, Nat.reduceMul, forall_const, implies_true, d_norialaw42_SlotNobody, s_Few_at, eEns, eIls, eImg, ePrt, ePrts, eRows, eSs, eTy, eVn, eY, sls_len, ils_len, ils_rowsT, sls_rowsT, sls_tk0, ils_tk0, ef, el, q2, ils_len, n1, n2, n3, n4, n5, n6, n7, n8, n9, o1, o2, o3, o4, o5, o6, o7, o8, o9, List.length_nil, List.length_cons , hcondQ]) | (simp (disch := omega) only [i64_id, u64_id, u8_id, getD_map'])))) | ((with_reducible refine And.intro ?_ ?_); · first | trivial | omega | (simp; done) | (simp; omega)) | ((first | ((with_reducible refine dwp_condI (t := ?_) ?_ (fun hcQ => ?_) (fun hcQ => ?_)); rotate_left; · rfl) | ((with_reducible refine dops_guardI (t := ?_) ?_ (fun hcQ => ?_) (fun hcQ => ?_)); rotate_left; · rfl)) <;> (have hn := hcQ; have hcondQ := hcQ) <;> (try simp only [decide_eq_true_eq, decide_eq_false_iff_not, beq_iff_eq, bne_iff_ne, ne_eq, Bool.and_eq_true, Bool.or_eq_true, Bool.not_eq_true, Bool.not_eq_false, beq_eq_false_iff_ne, bne_eq_false_iff_eq, Bool.not_eq_true', Bool.not_eq_false', Int.ofNat_lt, Int.ofNat_le, Bool.or_eq_false_iff, Bool.and_eq_false_imp, Decidable.not_not, gt_iff_lt, ge_iff_le] at hn) <;> (try (exfalso; omega)) <;> (refine Todo.of ?_)) | (((with_reducible refine dwp_condA ?_ ?_ ?_); · rfl) <;> (refine Todo.of ?_)))) <;> (try (first | (with_reducible rfl) | exact Nat.le_refl _ | exact Int.le_refl _ | assumption | omega))
theorem slotNobody_tells (dvs : List DV) (h : HasAll Try.prog [34, 37] dvs) : TellsP Try.prog 5 dvs (.bool true) := by
  obtain ⟨d1, r, rfl, h1, d2, r', rfl, h2, rfl⟩ := h
  obtain ⟨x, rfl, hx⟩ := HasV_agg (by kernel_rfl) reads_Img h1
  obtain ⟨v, hv, _⟩ := HasV_one (by kernel_rfl) rfl reads_Is h2
  injection hv with hv
  subst hv
  have e := s_lawNobody_at x v
  have := (ok_norialaw42_SlotNobody _ (by rw [e]; exact hx)).2
  rw [e] at this
  exact this
end Go.Proofs.Ytfjddinibppmdaa
