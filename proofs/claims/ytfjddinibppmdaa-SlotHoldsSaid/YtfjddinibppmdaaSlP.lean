/- SlotHolds. -/
import Derived.Test.YtfjddinibppmdaaSlO
set_option linter.all false
set_option maxRecDepth 20000
namespace Go.Proofs.Ytfjddinibppmdaa
open Go.Nk

def holdS (n : Nat) (q : Qs) (x : Img) (v : List Int) (d : Int) (hp : List DObj) : List DObj :=
  if d = 2 then Sstage n q x hp else if d = 3 then Swrite n q v hp else if d = 4 then Scommit n q hp else Sdrop n q hp
def holdQ (q : Qs) (x : Img) (v : List Int) (d : Int) (L : Nat) : Qs :=
  if d = 2 then SstageQ q x L else if d = 3 then SwriteQ q v else if d = 4 then ScommitQ q else dropQ q
def holdA (a : As) (x : Img) (v : List Int) (d : Int) : As :=
  if d = 2 then stageA a x else if d = 3 then writeA a v else if d = 4 then commitA a else dropA a
def holdD (a : As) (d : Int) : Bool := if d = 4 then cmOk a else false
theorem hold_step {hp : List DObj} {n : Nat} {q : Qs} (h : Rep hp n true q) (x : Img) (v : List Int) (d : Int) : Stp hp n (holdS n q x v d hp) (holdQ q x v d hp.length) ∧ (holdQ q x v d hp.length).as = holdA q.as x v d := by
  unfold holdS holdQ holdA
  split
  · exact stage_step h x
  split
  · exact write_step h v
  split
  · exact commit_step h
  · exact drop_step h
theorem hold_get {hp : List DObj} {n : Nat} {q : Qs} {x : Img} {v : List Int} {d : Int} {i : Nat} {o : DObj} (hi : i ≠ n) (ho : i ≠ otH q) (e : hp[i]? = some o) : (holdS n q x v d hp)[i]? = some o := by
  unfold holdS
  split
  · unfold Sstage; split
    · rw [one_ne hi]; exact get_app e
    · exact e
  split
  · unfold Swrite; split
    · rw [one_ne hi, List.getElem?_set_ne (Ne.symm ho)]; exact e
    · exact e
  split
  · unfold Scommit; split
    · rw [one_ne hi]; exact e
    · exact e
  · unfold Sdrop; rw [one_ne hi]; exact e
theorem hold_same {a : As} {x : Img} {v : List Int} {d : Int} (h : holdD a d = false) : (holdA a x v d).h = a.h := by
  unfold holdD at h
  unfold holdA
  split
  · unfold stageA; split <;> rfl
  split
  · unfold writeA; split <;> rfl
  split
  · rename_i c; rw [if_pos c] at h
    unfold commitA; rw [h]; rfl
  · rfl
theorem hold_there {a : As} {x : Img} {v : List Int} {d : Int} (h : a.h.there = true) : (holdA a x v d).h.there = true := by
  by_cases c : holdD a d = false
  · rw [hold_same c]; exact h
  · unfold holdD at c
    split at c
    · rename_i e
      have c2 : cmOk a = true := by simpa using c
      unfold holdA
      subst e
      simp only [Int.reduceEq, if_false, if_true]
      unfold commitA
      rw [if_pos c2]
      simp only [cmOk, Bool.and_eq_true] at c2
      exact c2.1
    · exact absurd rfl c
theorem okW_hold {a : As} (h : okW a) {x : Img} (hx : fewF x = true) {v : List Int} (hv : v.length ≤ 1200) (d : Int) : okW (holdA a x v d) := by
  unfold holdA
  split
  · exact okW_act h hx hv 2
  split
  · exact okW_act h hx hv 3
  split
  · exact okW_act h hx hv 4
  · exact okW_act h hx hv 5
theorem otH_lt {hp : List DObj} {n : Nat} {q : Qs} (h : Rep hp n true q) : otH q < hp.length := by
  unfold otH
  split
  · cases t : q.v0.there
    · rw [(h.k0.2 t).2]; have := h.lt; omega
    · exact h.k0.lt t
  · cases t : q.v1.there
    · rw [(h.k1.2 t).2]; have := h.lt; omega
    · exact h.k1.lt t
theorem ils_rp' (n : Nat) : ils (List.replicate n 0) = List.replicate n [DV.int .i64 0] := by simp [ils]
theorem cell_mm (t : Ty) : max 1 (min 8 t.n) = cellsTy t := by
  unfold cellsTy
  by_cases h1 : t.n < 1
  · rw [if_pos h1]; omega
  · rw [if_neg h1]
    by_cases h2 : 8 < t.n
    · rw [if_pos h2]; omega
    · rw [if_neg h2]; omega
theorem get4a {hp : List DObj} {a b c d : DObj} : (hp ++ [a, b, c, d])[hp.length]? = some a := by simp
theorem get4c {hp : List DObj} {a b c d : DObj} : (hp ++ [a, b, c, d])[hp.length + 2]? = some c := by simp
theorem get4d {hp : List DObj} {a b c d : DObj} : (hp ++ [a, b, c, d])[hp.length + 3]? = some d := by simp
theorem set4d {hp : List DObj} {a b c d e : DObj} : (hp ++ [a, b, c, d]).set (hp.length + 3) e = hp ++ [a, b, c, e] := by rw [List.set_append_right _ _ (by omega)]; simp
noncomputable def s_lawHolds : List DV → Prop × DV := spec2 eImgs eActs fun l a => (∀ x ∈ l, okLen x, .bool true)
theorem s_lawHolds_at (l : List Img) (a : List Act) : s_lawHolds [.sl (l.map cImg), .sl (a.map cAct)] = (∀ x ∈ l, okLen x, .bool true) := spec2_at inj_Imgs inj_Acts _ l a
set_option maxHeartbeats 4000000 in
theorem ok_norialaw42_SlotHolds : OkP Try.prog 3 s_lawHolds := by
  refine OkP.mk2 (ps := [(6, s_fewL), (7, s_liveS), (12, s_imgAt), (16, s_SameImg), (17, s_Vals)]) (hs := [(8, s_New), (9, s_Load), (10, s_Active), (11, s_Stage), (13, s_Write), (14, s_Commit), (15, s_Drop)])
    ⟨ok_norialaw42_few, ok_norialaw42_live, ok_norialaw42_of, ok_noriaref33_Same, ok_noriaref01_Vals, trivial⟩ ⟨ok_New, ok_Load, ok_Active, ok_Stage, ok_Write, ok_Commit, ok_Drop, trivial⟩ m_norialaw42_SlotHolds fun l acts h => ?_
  have h : ∀ x ∈ l, okLen x := h
  have ef := s_fewL_at l acts
  rw [eq_true h] at ef
  have el := s_liveS_at
  
  cases c : fewL l acts
  · rw [c] at ef
    (have hcondQ := Bool.and_self; refine Todo.of ?_); (repeat' (first | ((with_reducible refine Todo.to ?_); (repeat (first | (simp only [↓rP, rT, rU, eI, eU, eB, eS, eBs, eL, eA, buildCells, sepsD, sepB, hdl, dvalX, DOp.kind, dval, frameFrom, dBin, dInt, dStr, dBeq, dUn, dLoad, cellsAt, retV, retL, DR.val, fzT, fzVs, fzV, fz1, DV.immB, IntKind.bits, dCallP, viewVs, viewV, view1, capVL, capV, viewL, noMemV, noMem, elemsOf, dAppend, dAppz, dStore, DV.one, alive, freezeAt, fzLL, fzL, bRow, bU, cellsOf, setFrom, DV.isU, lenMax, lenCap, Nat.reduceEqDiff, Nat.reduceAdd, ↓reduceIte, reduceCtorEq, Nat.reduceSub, Int.reduceToNat, Int.reducePow, Nat.reducePow, Int.reduceLE, Int.reduceLT, Nat.reduceLeDiff, Nat.reduceLT, Int.reduceBEq, Int.reduceBNe, Int.reduceEq, Int.reduceNe, Int.reduceAdd, Int.reduceSub, Int.reduceMul, Int.reduceNeg, Int.reduceTDiv, Int.reduceTMod, Int.reduceMod, Int.reduceDiv, Nat.reduceMul, forall_const, implies_true, d_norialaw42_SlotHolds, s_fewL_at, eActs, eEns, eIls, eImg, eImgs, ePrt, ePrts, eRows, eSs, eTy, eVn, eY, sls_len, ils_len, ils_rowsT, sls_rowsT, sls_tk0, ils_tk0, ef, el , hcondQ]) | (simp (disch := omega) only [i64_id, u64_id, u8_id, getD_map'])))) | ((with_reducible refine And.intro ?_ ?_); · first | trivial | omega | (simp; done) | (simp; omega)) | ((first | ((with_reducible refine dwp_condI (t := ?_) ?_ (fun hcQ => ?_) (fun hcQ => ?_)); rotate_left; · rfl) | ((with_reducible refine dops_guardI (t := ?_) ?_ (fun hcQ => ?_) (fun hcQ => ?_)); rotate_left; · rfl)) <;> (have hn := hcQ; have hcondQ := hcQ) <;> (try simp only [decide_eq_true_eq, decide_eq_false_iff_not, beq_iff_eq, bne_iff_ne, ne_eq, Bool.and_eq_true, Bool.or_eq_true, Bool.not_eq_true, Bool.not_eq_false, beq_eq_false_iff_ne, bne_eq_false_iff_eq, Bool.not_eq_true', Bool.not_eq_false', Int.ofNat_lt, Int.ofNat_le, Bool.or_eq_false_iff, Bool.and_eq_false_imp, Decidable.not_not, gt_iff_lt, ge_iff_le] at hn) <;> (try (exfalso; omega)) <;> (refine Todo.of ?_)) | (((with_reducible refine dwp_condA ?_ ?_ ?_); · rfl) <;> (refine Todo.of ?_)))) <;> (try (first | (with_reducible rfl) | exact Nat.le_refl _ | exact Int.le_refl _ | assumption | omega))
  rw [c] at ef
  obtain ⟨f1, f2, f3, f4⟩ := fewL_E c
  rcases l with _ | ⟨x, l⟩
  · simp only [List.map_nil] at ef ⊢
    (have hcondQ := Bool.and_self; refine Todo.of ?_); (repeat' (first | ((with_reducible refine Todo.to ?_); (repeat (first | (simp only [↓rP, rT, rU, eI, eU, eB, eS, eBs, eL, eA, buildCells, sepsD, sepB, hdl, dvalX, DOp.kind, dval, frameFrom, dBin, dInt, dStr, dBeq, dUn, dLoad, cellsAt, retV, retL, DR.val, fzT, fzVs, fzV, fz1, DV.immB, IntKind.bits, dCallP, viewVs, viewV, view1, capVL, capV, viewL, noMemV, noMem, elemsOf, dAppend, dAppz, dStore, DV.one, alive, freezeAt, fzLL, fzL, bRow, bU, cellsOf, setFrom, DV.isU, lenMax, lenCap, Nat.reduceEqDiff, Nat.reduceAdd, ↓reduceIte, reduceCtorEq, Nat.reduceSub, Int.reduceToNat, Int.reducePow, Nat.reducePow, Int.reduceLE, Int.reduceLT, Nat.reduceLeDiff, Nat.reduceLT, Int.reduceBEq, Int.reduceBNe, Int.reduceEq, Int.reduceNe, Int.reduceAdd, Int.reduceSub, Int.reduceMul, Int.reduceNeg, Int.reduceTDiv, Int.reduceTMod, Int.reduceMod, Int.reduceDiv, Nat.reduceMul, forall_const, implies_true, d_norialaw42_SlotHolds, s_fewL_at, eActs, eEns, eIls, eImg, eImgs, ePrt, ePrts, eRows, eSs, eTy, eVn, eY, sls_len, ils_len, ils_rowsT, sls_rowsT, sls_tk0, ils_tk0, ef, el, List.length_nil , hcondQ]) | (simp (disch := omega) only [i64_id, u64_id, u8_id, getD_map'])))) | ((with_reducible refine And.intro ?_ ?_); · first | trivial | omega | (simp; done) | (simp; omega)) | ((first | ((with_reducible refine dwp_condI (t := ?_) ?_ (fun hcQ => ?_) (fun hcQ => ?_)); rotate_left; · rfl) | ((with_reducible refine dops_guardI (t := ?_) ?_ (fun hcQ => ?_) (fun hcQ => ?_)); rotate_left; · rfl)) <;> (have hn := hcQ; have hcondQ := hcQ) <;> (try simp only [decide_eq_true_eq, decide_eq_false_iff_not, beq_iff_eq, bne_iff_ne, ne_eq, Bool.and_eq_true, Bool.or_eq_true, Bool.not_eq_true, Bool.not_eq_false, beq_eq_false_iff_ne, bne_eq_false_iff_eq, Bool.not_eq_true', Bool.not_eq_false', Int.ofNat_lt, Int.ofNat_le, Bool.or_eq_false_iff, Bool.and_eq_false_imp, Decidable.not_not, gt_iff_lt, ge_iff_le] at hn) <;> (try (exfalso; omega)) <;> (refine Todo.of ?_)) | (((with_reducible refine dwp_condA ?_ ?_ ?_); · rfl) <;> (refine Todo.of ?_)))) <;> (try (first | (with_reducible rfl) | exact Nat.le_refl _ | exact Int.le_refl _ | assumption | omega))
  have hx := f1 x (List.mem_cons_self ..)
  have eN : s_New [] [] = ⟨True, .ptr 0 1 0 0, [oQ true qZ]⟩ := by rw [s_New_at]; rfl
  have nz : ¬ ((x :: l).length : Int) = 0 := by first | (simp; done) | (simp; omega)
  have nz2 : (((x :: l).length : Int) == 0) = false := by first | (simp; done) | (simp; omega)
  have rx : ((x :: l).map cImg).getD 0 [] = cImg x := rfl
  have lx : (0 : Int) < (x :: l).length := by first | (simp; done) | (simp; omega)
  generalize hL : x :: l = L at *
  (have hcondQ := Bool.and_self; refine Todo.of ?_); (repeat' (first | ((with_reducible refine Todo.to ?_); (repeat (first | (simp only [↓rP, rT, rU, eI, eU, eB, eS, eBs, eL, eA, buildCells, sepsD, sepB, hdl, dvalX, DOp.kind, dval, frameFrom, dBin, dInt, dStr, dBeq, dUn, dLoad, cellsAt, retV, retL, DR.val, fzT, fzVs, fzV, fz1, DV.immB, IntKind.bits, dCallP, viewVs, viewV, view1, capVL, capV, viewL, noMemV, noMem, elemsOf, dAppend, dAppz, dStore, DV.one, alive, freezeAt, fzLL, fzL, bRow, bU, cellsOf, setFrom, DV.isU, lenMax, lenCap, Nat.reduceEqDiff, Nat.reduceAdd, ↓reduceIte, reduceCtorEq, Nat.reduceSub, Int.reduceToNat, Int.reducePow, Nat.reducePow, Int.reduceLE, Int.reduceLT, Nat.reduceLeDiff, Nat.reduceLT, Int.reduceBEq, Int.reduceBNe, Int.reduceEq, Int.reduceNe, Int.reduceAdd, Int.reduceSub, Int.reduceMul, Int.reduceNeg, Int.reduceTDiv, Int.reduceTMod, Int.reduceMod, Int.reduceDiv, Nat.reduceMul, forall_const, implies_true, d_norialaw42_SlotHolds, s_fewL_at, eActs, eEns, eIls, eImg, eImgs, ePrt, ePrts, eRows, eSs, eTy, eVn, eY, sls_len, ils_len, ils_rowsT, sls_rowsT, sls_tk0, ils_tk0, ef, eN, nz, nz2, List.length_map , hcondQ]) | (simp (disch := omega) only [i64_id, u64_id, u8_id, getD_map'])))) | ((with_reducible refine And.intro ?_ ?_); · first | trivial | omega | (simp; done) | (simp; omega)) | ((first | ((with_reducible refine dwp_condI (t := ?_) ?_ (fun hcQ => ?_) (fun hcQ => ?_)); rotate_left; · rfl) | ((with_reducible refine dops_guardI (t := ?_) ?_ (fun hcQ => ?_) (fun hcQ => ?_)); rotate_left; · rfl)) <;> (have hn := hcQ; have hcondQ := hcQ) <;> (try simp only [decide_eq_true_eq, decide_eq_false_iff_not, beq_iff_eq, bne_iff_ne, ne_eq, Bool.and_eq_true, Bool.or_eq_true, Bool.not_eq_true, Bool.not_eq_false, beq_eq_false_iff_ne, bne_eq_false_iff_eq, Bool.not_eq_true', Bool.not_eq_false', Int.ofNat_lt, Int.ofNat_le, Bool.or_eq_false_iff, Bool.and_eq_false_imp, Decidable.not_not, gt_iff_lt, ge_iff_le] at hn) <;> (try (exfalso; omega)) <;> (refine Todo.of ?_)) | (((with_reducible refine dwp_condA ?_ ?_ ?_); · rfl) <;> (refine Todo.of ?_)))) <;> (try (first | (with_reducible rfl) | exact Nat.le_refl _ | exact Int.le_refl _ | assumption | omega))
  have sl := (few_E hx).2.2.2.1
  refine dwp_loop (fun k : Nat => ⟨[(0, .sl (L.map cImg)), (1, .sl (acts.map cAct)), (5, .ptr 0 1 0 0), (6, .int .i64 (sumC (x.slots.take k))), (7, .int .i64 k)], [oQ true qZ]⟩) (fun k => k ≤ x.slots.length) (fun k => x.slots.length - k) 0 trivial (by simp only [cut_some, cut_none, List.map_cons, List.map_nil, get_cons, Nk.get_nil, Nat.reduceEqDiff, ↓reduceIte, Nat.succ_ne_self, DV.cut, DV.inB, DObj.cut, List.take_nil, List.take_zero, if_true, Nat.zero_ne_one, Nat.one_ne_zero, DV.inBL, Bool.and_true, Bool.true_and, reduceCtorEq, Nat.zero_lt_one, decide_true, decide_false, Nat.reduceLT, List.take_succ_cons, Int.natCast_add, Int.natCast_one, List.length_append, List.length_cons, List.length_nil, Nat.zero_add] <;> rfl) (Nat.zero_le _) fun k hk => ?_
  by_cases d : k < x.slots.length
  · have d2 : (k : Int) < x.slots.length := by omega
    have g1 := slt_getD d
    have b1 := sumC_b x.slots k hk
    have b2 := cellsTy_b (x.slots.getD k default).ty
    have k0 : (0 : Int) ≤ k := by omega
    have mm := cell_mm (x.slots.getD k default).ty
    have w1 : IntKind.i64.wrap (sumC (x.slots.take k) + cellsTy (x.slots.getD k default).ty) = sumC (x.slots.take (k + 1)) := by rw [wrap_i64_id (by omega), sumC_take d]
    have w2 : IntKind.i64.wrap ((k : Int) + 1) = ((k + 1 : Nat) : Int) := by rw [wrap_i64_id (by omega)]; omega
    (have hcondQ := Bool.and_self; refine Todo.of ?_); (repeat' (first | ((with_reducible refine Todo.to ?_); (repeat (first | (simp only [↓rP, rT, rU, eI, eU, eB, eS, eBs, eL, eA, buildCells, sepsD, sepB, hdl, dvalX, DOp.kind, dval, frameFrom, dBin, dInt, dStr, dBeq, dUn, dLoad, cellsAt, retV, retL, DR.val, fzT, fzVs, fzV, fz1, DV.immB, IntKind.bits, dCallP, viewVs, viewV, view1, capVL, capV, viewL, noMemV, noMem, elemsOf, dAppend, dAppz, dStore, DV.one, alive, freezeAt, fzLL, fzL, bRow, bU, cellsOf, setFrom, DV.isU, lenMax, lenCap, Nat.reduceEqDiff, Nat.reduceAdd, ↓reduceIte, reduceCtorEq, Nat.reduceSub, Int.reduceToNat, Int.reducePow, Nat.reducePow, Int.reduceLE, Int.reduceLT, Nat.reduceLeDiff, Nat.reduceLT, Int.reduceBEq, Int.reduceBNe, Int.reduceEq, Int.reduceNe, Int.reduceAdd, Int.reduceSub, Int.reduceMul, Int.reduceNeg, Int.reduceTDiv, Int.reduceTMod, Int.reduceMod, Int.reduceDiv, Nat.reduceMul, forall_const, implies_true, d_norialaw42_SlotHolds, s_fewL_at, eActs, eEns, eIls, eImg, eImgs, ePrt, ePrts, eRows, eSs, eTy, eVn, eY, sls_len, ils_len, ils_rowsT, sls_rowsT, sls_tk0, ils_tk0, d2, rx, lx, g1, k0, mm, w1, w2, List.length_map , hcondQ]) | (simp (disch := omega) only [i64_id, u64_id, u8_id, getD_map'])))) | ((with_reducible refine And.intro ?_ ?_); · first | trivial | omega | (simp; done) | (simp; omega)) | ((first | ((with_reducible refine dwp_condI (t := ?_) ?_ (fun hcQ => ?_) (fun hcQ => ?_)); rotate_left; · rfl) | ((with_reducible refine dops_guardI (t := ?_) ?_ (fun hcQ => ?_) (fun hcQ => ?_)); rotate_left; · rfl)) <;> (have hn := hcQ; have hcondQ := hcQ) <;> (try simp only [decide_eq_true_eq, decide_eq_false_iff_not, beq_iff_eq, bne_iff_ne, ne_eq, Bool.and_eq_true, Bool.or_eq_true, Bool.not_eq_true, Bool.not_eq_false, beq_eq_false_iff_ne, bne_eq_false_iff_eq, Bool.not_eq_true', Bool.not_eq_false', Int.ofNat_lt, Int.ofNat_le, Bool.or_eq_false_iff, Bool.and_eq_false_imp, Decidable.not_not, gt_iff_lt, ge_iff_le] at hn) <;> (try (exfalso; omega)) <;> (refine Todo.of ?_)) | (((with_reducible refine dwp_condA ?_ ?_ ?_); · rfl) <;> (refine Todo.of ?_)))) <;> (try (first | (with_reducible rfl) | exact Nat.le_refl _ | exact Int.le_refl _ | assumption | omega))
    exact ⟨k + 1, by simp only [cut_some, cut_none, List.map_cons, List.map_nil, get_cons, Nk.get_nil, Nat.reduceEqDiff, ↓reduceIte, Nat.succ_ne_self, DV.cut, DV.inB, DObj.cut, List.take_nil, List.take_zero, if_true, Nat.zero_ne_one, Nat.one_ne_zero, DV.inBL, Bool.and_true, Bool.true_and, reduceCtorEq, Nat.zero_lt_one, decide_true, decide_false, Nat.reduceLT, List.take_succ_cons, Int.natCast_add, Int.natCast_one, List.length_append, List.length_cons, List.length_nil, Nat.zero_add] <;> rfl, by omega, by omega⟩
  have d2 : ¬ (k : Int) < x.slots.length := by omega
  rw [List.take_of_length_le (by omega)]
  have sb := sumC_bd x.slots sl
  have hn1 : sumC x.slots ≤ 17592186044416 := by omega
  have hz : (List.replicate (sumC x.slots).toNat 0 : List Int).length = (sumC x.slots).toNat := List.length_replicate
  have r0 : Rep [oQ true qZ, ⟨.frz, 1, List.replicate (sumC x.slots).toNat [.int .i64 0]⟩] 0 true qZ := rep_z (hp := []) (t := [_])
  have okx : okXL x (List.replicate (sumC x.slots).toNat 0) := ⟨sl, by rw [hz]; omega⟩
  have mb : misB x (List.replicate (sumC x.slots).toNat 0) = true := by
    unfold misB missF
    simp only [hz, beq_iff_eq]
    omega
  have e1 := s_Load_at (x := x) (l := List.replicate (sumC x.slots).toNat 0) r0
  obtain ⟨t1, a1⟩ := load_step r0 x (List.replicate (sumC x.slots).toNat 0)
  rw [show (if misB x (List.replicate (sumC x.slots).toNat 0) = true then one ([oQ true qZ, ⟨.frz, 1, List.replicate (sumC x.slots).toNat [.int .i64 0]⟩] ++ jk x _ _) 0 (oQ true (loadQ qZ x _ _)) else _) = Sload 0 qZ x (List.replicate (sumC x.slots).toNat 0) [oQ true qZ, ⟨.frz, 1, List.replicate (sumC x.slots).toNat [.int .i64 0]⟩] from rfl, eq_true okx, mb, ils_rp'] at e1
  rw [qZ_as, show loadA ⟨vnZ, vnZ, 0⟩ x (List.replicate (sumC x.slots).toNat 0) = ⟨⟨true, x, List.replicate (sumC x.slots).toNat 0⟩, vnZ, 0⟩ by simp [loadA, mb]] at a1
  have ow1 : okW (SloadQ qZ x (List.replicate (sumC x.slots).toNat 0) 2).as := by rw [show (SloadQ qZ x (List.replicate (sumC x.slots).toNat 0) 2).as = _ from a1]; exact ⟨⟨okV_of hx okx.2, okV_z, fun e => by cases e⟩, hx, few_Z⟩
  have th1 : (SloadQ qZ x (List.replicate (sumC x.slots).toNat 0) 2).as.h.there = true := by rw [show (SloadQ qZ x (List.replicate (sumC x.slots).toNat 0) 2).as = _ from a1]
  have r1 : Rep _ 0 true (SloadQ qZ x (List.replicate (sumC x.slots).toNat 0) 2) := t1.r
  generalize Sload 0 qZ x (List.replicate (sumC x.slots).toNat 0) _ = hp1 at e1 r1
  generalize SloadQ qZ x (List.replicate (sumC x.slots).toNat 0) 2 = q1 at r1 ow1 th1
  have tkr : List.take (sumC x.slots).toNat (List.replicate (sumC x.slots).toNat [DV.int .i64 0]) = List.replicate (sumC x.slots).toNat [DV.int .i64 0] := by simp
  (have hcondQ := Bool.and_self; refine Todo.of ?_); (repeat' (first | ((with_reducible refine Todo.to ?_); (repeat (first | (simp only [↓rP, rT, rU, eI, eU, eB, eS, eBs, eL, eA, buildCells, sepsD, sepB, hdl, dvalX, DOp.kind, dval, frameFrom, dBin, dInt, dStr, dBeq, dUn, dLoad, cellsAt, retV, retL, DR.val, fzT, fzVs, fzV, fz1, DV.immB, IntKind.bits, dCallP, viewVs, viewV, view1, capVL, capV, viewL, noMemV, noMem, elemsOf, dAppend, dAppz, dStore, DV.one, alive, freezeAt, fzLL, fzL, bRow, bU, cellsOf, setFrom, DV.isU, lenMax, lenCap, Nat.reduceEqDiff, Nat.reduceAdd, ↓reduceIte, reduceCtorEq, Nat.reduceSub, Int.reduceToNat, Int.reducePow, Nat.reducePow, Int.reduceLE, Int.reduceLT, Nat.reduceLeDiff, Nat.reduceLT, Int.reduceBEq, Int.reduceBNe, Int.reduceEq, Int.reduceNe, Int.reduceAdd, Int.reduceSub, Int.reduceMul, Int.reduceNeg, Int.reduceTDiv, Int.reduceTMod, Int.reduceMod, Int.reduceDiv, Nat.reduceMul, forall_const, implies_true, d_norialaw42_SlotHolds, s_fewL_at, eActs, eEns, eIls, eImg, eImgs, ePrt, ePrts, eRows, eSs, eTy, eVn, eY, sls_len, ils_len, ils_rowsT, sls_rowsT, sls_tk0, ils_tk0, d2, rx, lx, e1, sb, hn1, tkr, lenCap, List.length_map, List.length_replicate, List.map_replicate , hcondQ]) | (simp (disch := omega) only [i64_id, u64_id, u8_id, getD_map'])))) | ((with_reducible refine And.intro ?_ ?_); · first | trivial | omega | (simp; done) | (simp; omega)) | ((first | ((with_reducible refine dwp_condI (t := ?_) ?_ (fun hcQ => ?_) (fun hcQ => ?_)); rotate_left; · rfl) | ((with_reducible refine dops_guardI (t := ?_) ?_ (fun hcQ => ?_) (fun hcQ => ?_)); rotate_left; · rfl)) <;> (have hn := hcQ; have hcondQ := hcQ) <;> (try simp only [decide_eq_true_eq, decide_eq_false_iff_not, beq_iff_eq, bne_iff_ne, ne_eq, Bool.and_eq_true, Bool.or_eq_true, Bool.not_eq_true, Bool.not_eq_false, beq_eq_false_iff_ne, bne_eq_false_iff_eq, Bool.not_eq_true', Bool.not_eq_false', Int.ofNat_lt, Int.ofNat_le, Bool.or_eq_false_iff, Bool.and_eq_false_imp, Decidable.not_not, gt_iff_lt, ge_iff_le] at hn) <;> (try (exfalso; omega)) <;> (refine Todo.of ?_)) | (((with_reducible refine dwp_condA ?_ ?_ ?_); · rfl) <;> (refine Todo.of ?_)))) <;> (try (first | (with_reducible rfl) | exact Nat.le_refl _ | exact Int.le_refl _ | assumption | omega))
  refine dwp_loop (fun y : Nat × List DObj × Qs => ⟨[(0, .sl (L.map cImg)), (1, .sl (acts.map cAct)), (5, .ptr 0 1 0 0), (8, .int .i64 y.1)], y.2.1⟩) (fun y => y.1 ≤ acts.length ∧ Rep y.2.1 0 true y.2.2 ∧ okW y.2.2.as ∧ y.2.2.as.h.there = true) (fun y => acts.length - y.1) (0, hp1, q1) trivial (by simp only [cut_some, cut_none, List.map_cons, List.map_nil, get_cons, Nk.get_nil, Nat.reduceEqDiff, ↓reduceIte, Nat.succ_ne_self, DV.cut, DV.inB, DObj.cut, List.take_nil, List.take_zero, if_true, Nat.zero_ne_one, Nat.one_ne_zero, DV.inBL, Bool.and_true, Bool.true_and, reduceCtorEq, Nat.zero_lt_one, decide_true, decide_false, Nat.reduceLT, List.take_succ_cons, Int.natCast_add, Int.natCast_one, List.length_append, List.length_cons, List.length_nil, Nat.zero_add] <;> rfl)
    ⟨Nat.zero_le _, r1, ow1, th1⟩ fun y hy => ?_
  obtain ⟨j, hp, q⟩ := y
  obtain ⟨hj, r, ow, th⟩ := hy
  simp only at hj r ow th ⊢
  by_cases dj : j < acts.length
  rotate_left
  · have d3 : ¬ (j : Int) < acts.length := by omega
    (have hcondQ := Bool.and_self; refine Todo.of ?_); (repeat' (first | ((with_reducible refine Todo.to ?_); (repeat (first | (simp only [↓rP, rT, rU, eI, eU, eB, eS, eBs, eL, eA, buildCells, sepsD, sepB, hdl, dvalX, DOp.kind, dval, frameFrom, dBin, dInt, dStr, dBeq, dUn, dLoad, cellsAt, retV, retL, DR.val, fzT, fzVs, fzV, fz1, DV.immB, IntKind.bits, dCallP, viewVs, viewV, view1, capVL, capV, viewL, noMemV, noMem, elemsOf, dAppend, dAppz, dStore, DV.one, alive, freezeAt, fzLL, fzL, bRow, bU, cellsOf, setFrom, DV.isU, lenMax, lenCap, Nat.reduceEqDiff, Nat.reduceAdd, ↓reduceIte, reduceCtorEq, Nat.reduceSub, Int.reduceToNat, Int.reducePow, Nat.reducePow, Int.reduceLE, Int.reduceLT, Nat.reduceLeDiff, Nat.reduceLT, Int.reduceBEq, Int.reduceBNe, Int.reduceEq, Int.reduceNe, Int.reduceAdd, Int.reduceSub, Int.reduceMul, Int.reduceNeg, Int.reduceTDiv, Int.reduceTMod, Int.reduceMod, Int.reduceDiv, Nat.reduceMul, forall_const, implies_true, d_norialaw42_SlotHolds, s_fewL_at, eActs, eEns, eIls, eImg, eImgs, ePrt, ePrts, eRows, eSs, eTy, eVn, eY, sls_len, ils_len, ils_rowsT, sls_rowsT, sls_tk0, ils_tk0, d3, el, List.length_map , hcondQ]) | (simp (disch := omega) only [i64_id, u64_id, u8_id, getD_map'])))) | ((with_reducible refine And.intro ?_ ?_); · first | trivial | omega | (simp; done) | (simp; omega)) | ((first | ((with_reducible refine dwp_condI (t := ?_) ?_ (fun hcQ => ?_) (fun hcQ => ?_)); rotate_left; · rfl) | ((with_reducible refine dops_guardI (t := ?_) ?_ (fun hcQ => ?_) (fun hcQ => ?_)); rotate_left; · rfl)) <;> (have hn := hcQ; have hcondQ := hcQ) <;> (try simp only [decide_eq_true_eq, decide_eq_false_iff_not, beq_iff_eq, bne_iff_ne, ne_eq, Bool.and_eq_true, Bool.or_eq_true, Bool.not_eq_true, Bool.not_eq_false, beq_eq_false_iff_ne, bne_eq_false_iff_eq, Bool.not_eq_true', Bool.not_eq_false', Int.ofNat_lt, Int.ofNat_le, Bool.or_eq_false_iff, Bool.and_eq_false_imp, Decidable.not_not, gt_iff_lt, ge_iff_le] at hn) <;> (try (exfalso; omega)) <;> (refine Todo.of ?_)) | (((with_reducible refine dwp_condA ?_ ?_ ?_); · rfl) <;> (refine Todo.of ?_)))) <;> (try (first | (with_reducible rfl) | exact Nat.le_refl _ | exact Int.le_refl _ | assumption | omega))
  have d3 : (j : Int) < acts.length := by omega
  obtain ⟨a, ha⟩ : ∃ a, acts[j]? = some a := ⟨acts[j], by simp [dj]⟩
  have rr := map_getD cAct ha
  have wk : IntKind.i64.wrap ((j : Int) + 1) = ((j + 1 : Nat) : Int) := by rw [wrap_i64_id (by omega)]; omega
  have k0 : (0 : Int) ≤ j := by omega
  have fx := imgAt_few f1 a.i
  have fv := f2 a (List.mem_of_getElem? ha)
  have ei := s_imgAt_at L a.i
  generalize imgAt L a.i = xi at ei fx
  have hah : q.as.h = q.he := rfl
  have tq : q.he.there = true := th
  have lq : q.he.st.length ≤ 1200 := ow.k.h.2
  have e2 := s_Active_at (r.app (t := [⟨.loc, 3, [cAct a]⟩]))
  rw [eq_true (show q.he.there = true → q.he.st.length ≤ 1200 from fun _ => lq), tq] at e2
  simp only [if_true, acYes, List.length_append, List.length_cons, List.length_nil, Nat.zero_add, Nat.add_assoc, Nat.reduceAdd, List.append_assoc, List.cons_append, List.nil_append] at e2
  have rH := r.app (t := [⟨.loc, 3, [cAct a]⟩, ⟨.loc, 6, [cImg q.he.x]⟩, oSt q.he.st, ⟨.loc, 6, [cImg q.he.x]⟩])
  have o9 := otH_lt r
  have hn := r.lt
  have gS := get4c (hp := hp) (a := ⟨.loc, 3, [cAct a]⟩) (b := ⟨.loc, 6, [cImg q.he.x]⟩) (c := oSt q.he.st) (d := ⟨.loc, 6, [cImg q.he.x]⟩)
  have gD := get4d (hp := hp) (a := ⟨.loc, 3, [cAct a]⟩) (b := ⟨.loc, 6, [cImg q.he.x]⟩) (c := oSt q.he.st) (d := ⟨.loc, 6, [cImg q.he.x]⟩)
  obtain ⟨H, hH⟩ : ∃ H, H = hp ++ [⟨.loc, 3, [cAct a]⟩, ⟨.loc, 6, [cImg q.he.x]⟩, oSt q.he.st, ⟨.loc, 6, [cImg q.he.x]⟩] := ⟨_, rfl⟩
  rw [← hH] at rH gS gD
  obtain ⟨st, as2⟩ := hold_step rH xi a.v a.d
  have r2 := st.r
  have ow2 := okW_hold ow fx fv a.d
  have th2 := hold_there (x := xi) (v := a.v) (d := a.d) th
  have sm := hold_same (a := q.as) (x := xi) (v := a.v) (d := a.d)
  rw [← as2] at ow2 th2 sm
  have gS2 := hold_get (x := xi) (v := a.v) (d := a.d) (q := q) (show hp.length + 2 ≠ 0 by omega) (show hp.length + 2 ≠ otH q by omega) gS
  have gD2 := hold_get (x := xi) (v := a.v) (d := a.d) (q := q) (show hp.length + 3 ≠ 0 by omega) (show hp.length + 3 ≠ otH q by omega) gD
  clear st as2
  generalize holdQ q xi a.v a.d H.length = q2 at r2 ow2 th2 sm
  have e1 := s_Stage_at (x := xi) rH
  have e3 := s_Write_at (l := a.v) rH
  have e4 := s_Commit_at rH
  have e5 := s_Drop_at rH
  rw [eq_true (show q.ot.there = true → okV q.ot ∧ a.v.length ≤ 1200 from fun _ => ⟨ow.k.o, fv⟩)] at e3
  rw [eq_true (show q.ot.there = true → okV q.ot from fun _ => ow.k.o)] at e4
  have q2t : q2.he.there = true := th2
  have e6 := s_Active_at r2
  rw [eq_true (show q2.he.there = true → q2.he.st.length ≤ 1200 from fun _ => ow2.k.h.2), q2t] at e6
  simp only [if_true, acYes, oSt] at e6 gS2
  have fin : ∀ hp2 : List DObj, Rep hp2 0 true q2 → ∀ t, Rep (hp2 ++ t) 0 true q2 := fun _ h2 t => h2.app
  have eI := s_SameImg_same (x := q.he.x) ow.fh
  have eV := s_Vals_same q.he.st (by omega)
  have tk := ils_tkl q.he.st
  by_cases c2 : a.d = 2
  · have hd : holdS 0 q xi a.v a.d H = Sstage 0 q xi H := by unfold holdS; rw [if_pos c2]
    rw [hd] at r2 gS2 gD2 e6
    rw [show (if q.he.there = true then one (H ++ [oJA xi [] (H.length + 1), oSt []]) 0 (oQ true (stageQ q xi (H.length + 1))) else H) = Sstage 0 q xi H from rfl, tq] at e1
    generalize Sstage 0 q xi H = hp2 at r2 gS2 gD2 e6 e1
    rw [hH] at e1
    have gSt := fun t => get_app (t := t) gS2
    have gDt := fun t => get_app (t := t) gD2
    simp only [oSt] at e1 e2
    have d2' : (a.d == 2) = true := by simp [c2]
    have q2h : q2.he = q.he := sm (by unfold holdD; rw [if_neg (by omega)])
    rw [q2h] at e6
    (have hcondQ := Bool.and_self; refine Todo.of ?_); (repeat' (first | ((with_reducible refine Todo.to ?_); (repeat (first | (simp only [↓rP, rT, rU, eI, eU, eB, eS, eBs, eL, eA, buildCells, sepsD, sepB, hdl, dvalX, DOp.kind, dval, frameFrom, dBin, dInt, dStr, dBeq, dUn, dLoad, cellsAt, retV, retL, DR.val, fzT, fzVs, fzV, fz1, DV.immB, IntKind.bits, dCallP, viewVs, viewV, view1, capVL, capV, viewL, noMemV, noMem, elemsOf, dAppend, dAppz, dStore, DV.one, alive, freezeAt, fzLL, fzL, bRow, bU, cellsOf, setFrom, DV.isU, lenMax, lenCap, Nat.reduceEqDiff, Nat.reduceAdd, ↓reduceIte, reduceCtorEq, Nat.reduceSub, Int.reduceToNat, Int.reducePow, Nat.reducePow, Int.reduceLE, Int.reduceLT, Nat.reduceLeDiff, Nat.reduceLT, Int.reduceBEq, Int.reduceBNe, Int.reduceEq, Int.reduceNe, Int.reduceAdd, Int.reduceSub, Int.reduceMul, Int.reduceNeg, Int.reduceTDiv, Int.reduceTMod, Int.reduceMod, Int.reduceDiv, Nat.reduceMul, forall_const, implies_true, d_norialaw42_SlotHolds, s_fewL_at, eActs, eEns, eIls, eImg, eImgs, ePrt, ePrts, eRows, eSs, eTy, eVn, eY, sls_len, ils_len, ils_rowsT, sls_rowsT, sls_tk0, ils_tk0, d3, rr, k0, wk, ei, e2, e1, e6, eI, eV, tk, gSt, gDt, d2', get4a, get4d, set4d, end_get, end_set, get3b, get3c, set3c, ils_len, List.append_assoc, List.drop_succ_cons, List.length_map , hcondQ]) | (simp (disch := omega) only [i64_id, u64_id, u8_id, getD_map'])))) | ((with_reducible refine And.intro ?_ ?_); · first | trivial | omega | (simp; done) | (simp; omega)) | ((first | ((with_reducible refine dwp_condI (t := ?_) ?_ (fun hcQ => ?_) (fun hcQ => ?_)); rotate_left; · rfl) | ((with_reducible refine dops_guardI (t := ?_) ?_ (fun hcQ => ?_) (fun hcQ => ?_)); rotate_left; · rfl)) <;> (have hn := hcQ; have hcondQ := hcQ) <;> (try simp only [decide_eq_true_eq, decide_eq_false_iff_not, beq_iff_eq, bne_iff_ne, ne_eq, Bool.and_eq_true, Bool.or_eq_true, Bool.not_eq_true, Bool.not_eq_false, beq_eq_false_iff_ne, bne_eq_false_iff_eq, Bool.not_eq_true', Bool.not_eq_false', Int.ofNat_lt, Int.ofNat_le, Bool.or_eq_false_iff, Bool.and_eq_false_imp, Decidable.not_not, gt_iff_lt, ge_iff_le] at hn) <;> (try (exfalso; omega)) <;> (refine Todo.of ?_)) | (((with_reducible refine dwp_condA ?_ ?_ ?_); · rfl) <;> (refine Todo.of ?_)))) <;> (try (first | (with_reducible rfl) | exact Nat.le_refl _ | exact Int.le_refl _ | assumption | omega))
    exact ⟨(j + 1, _, q2), by simp only [cut_some, cut_none, List.map_cons, List.map_nil, get_cons, Nk.get_nil, Nat.reduceEqDiff, ↓reduceIte, Nat.succ_ne_self, DV.cut, DV.inB, DObj.cut, List.take_nil, List.take_zero, if_true, Nat.zero_ne_one, Nat.one_ne_zero, DV.inBL, Bool.and_true, Bool.true_and, reduceCtorEq, Nat.zero_lt_one, decide_true, decide_false, Nat.reduceLT, List.take_succ_cons, Int.natCast_add, Int.natCast_one, List.length_append, List.length_cons, List.length_nil, Nat.zero_add] <;> rfl, ⟨by omega, fin _ r2 _, ow2, th2⟩, by simp only; omega⟩
  by_cases c3 : a.d = 3
  · have hd : holdS 0 q xi a.v a.d H = Swrite 0 q a.v H := by unfold holdS; rw [if_neg c2, if_pos c3]
    rw [hd] at r2 gS2 gD2 e6
    rw [show (if (q.ot.there && decide ((a.v.length : Int) ≤ missF q.ot)) = true then one (H.set (otH q) (oSt (q.ot.st ++ a.v))) 0 (oQ true (writeQ q a.v)) else H) = Swrite 0 q a.v H from rfl] at e3
    generalize Swrite 0 q a.v H = hp2 at r2 gS2 gD2 e6 e3
    generalize (q.ot.there && decide ((a.v.length : Int) ≤ missF q.ot)) = wb at e3
    rw [hH] at e3
    have gSt := fun t => get_app (t := t) gS2
    have gDt := fun t => get_app (t := t) gD2
    simp only [oSt] at e3 e2
    have d2' : (a.d == 2) = false := by simp [c2]
    have d3' : (a.d == 3) = true := by simp [c3]
    have q2h : q2.he = q.he := sm (by unfold holdD; rw [if_neg (by omega)])
    rw [q2h] at e6
    (have hcondQ := Bool.and_self; refine Todo.of ?_); (repeat' (first | ((with_reducible refine Todo.to ?_); (repeat (first | (simp only [↓rP, rT, rU, eI, eU, eB, eS, eBs, eL, eA, buildCells, sepsD, sepB, hdl, dvalX, DOp.kind, dval, frameFrom, dBin, dInt, dStr, dBeq, dUn, dLoad, cellsAt, retV, retL, DR.val, fzT, fzVs, fzV, fz1, DV.immB, IntKind.bits, dCallP, viewVs, viewV, view1, capVL, capV, viewL, noMemV, noMem, elemsOf, dAppend, dAppz, dStore, DV.one, alive, freezeAt, fzLL, fzL, bRow, bU, cellsOf, setFrom, DV.isU, lenMax, lenCap, Nat.reduceEqDiff, Nat.reduceAdd, ↓reduceIte, reduceCtorEq, Nat.reduceSub, Int.reduceToNat, Int.reducePow, Nat.reducePow, Int.reduceLE, Int.reduceLT, Nat.reduceLeDiff, Nat.reduceLT, Int.reduceBEq, Int.reduceBNe, Int.reduceEq, Int.reduceNe, Int.reduceAdd, Int.reduceSub, Int.reduceMul, Int.reduceNeg, Int.reduceTDiv, Int.reduceTMod, Int.reduceMod, Int.reduceDiv, Nat.reduceMul, forall_const, implies_true, d_norialaw42_SlotHolds, s_fewL_at, eActs, eEns, eIls, eImg, eImgs, ePrt, ePrts, eRows, eSs, eTy, eVn, eY, sls_len, ils_len, ils_rowsT, sls_rowsT, sls_tk0, ils_tk0, d3, rr, k0, wk, ei, e2, e3, e6, eI, eV, tk, gSt, gDt, d2', d3', get4a, get4d, set4d, end_get, end_set, get3b, get3c, set3c, ils_len, List.append_assoc, List.drop_succ_cons, List.length_map , hcondQ]) | (simp (disch := omega) only [i64_id, u64_id, u8_id, getD_map'])))) | ((with_reducible refine And.intro ?_ ?_); · first | trivial | omega | (simp; done) | (simp; omega)) | ((first | ((with_reducible refine dwp_condI (t := ?_) ?_ (fun hcQ => ?_) (fun hcQ => ?_)); rotate_left; · rfl) | ((with_reducible refine dops_guardI (t := ?_) ?_ (fun hcQ => ?_) (fun hcQ => ?_)); rotate_left; · rfl)) <;> (have hn := hcQ; have hcondQ := hcQ) <;> (try simp only [decide_eq_true_eq, decide_eq_false_iff_not, beq_iff_eq, bne_iff_ne, ne_eq, Bool.and_eq_true, Bool.or_eq_true, Bool.not_eq_true, Bool.not_eq_false, beq_eq_false_iff_ne, bne_eq_false_iff_eq, Bool.not_eq_true', Bool.not_eq_false', Int.ofNat_lt, Int.ofNat_le, Bool.or_eq_false_iff, Bool.and_eq_false_imp, Decidable.not_not, gt_iff_lt, ge_iff_le] at hn) <;> (try (exfalso; omega)) <;> (refine Todo.of ?_)) | (((with_reducible refine dwp_condA ?_ ?_ ?_); · rfl) <;> (refine Todo.of ?_)))) <;> (try (first | (with_reducible rfl) | exact Nat.le_refl _ | exact Int.le_refl _ | assumption | omega))
    exact ⟨(j + 1, _, q2), by simp only [cut_some, cut_none, List.map_cons, List.map_nil, get_cons, Nk.get_nil, Nat.reduceEqDiff, ↓reduceIte, Nat.succ_ne_self, DV.cut, DV.inB, DObj.cut, List.take_nil, List.take_zero, if_true, Nat.zero_ne_one, Nat.one_ne_zero, DV.inBL, Bool.and_true, Bool.true_and, reduceCtorEq, Nat.zero_lt_one, decide_true, decide_false, Nat.reduceLT, List.take_succ_cons, Int.natCast_add, Int.natCast_one, List.length_append, List.length_cons, List.length_nil, Nat.zero_add] <;> rfl, ⟨by omega, fin _ r2 _, ow2, th2⟩, by simp only; omega⟩
  by_cases c4 : a.d = 4
  · have hd : holdS 0 q xi a.v a.d H = Scommit 0 q H := by unfold holdS; rw [if_neg c2, if_neg c3, if_pos c4]
    rw [hd] at r2 gS2 gD2 e6
    rw [show (if (q.ot.there && missF q.ot == 0) = true then one H 0 (oQ true (cmtQ q)) else H) = Scommit 0 q H from rfl, show (q.ot.there && missF q.ot == 0) = cmOk q.as from rfl] at e4
    generalize Scommit 0 q H = hp2 at r2 gS2 gD2 e6 e4
    rw [hH] at e4
    have gSt := fun t => get_app (t := t) gS2
    have gDt := fun t => get_app (t := t) gD2
    simp only [oSt] at e4 e2
    have d2' : (a.d == 2) = false := by simp [c2]
    have d3' : (a.d == 3) = false := by simp [c3]
    have d4' : (a.d == 4) = true := by simp [c4]
    rcases bcases (cmOk q.as) with cb | cb
    · rw [cb] at e4
      have q2h : q2.he = q.he := sm (by unfold holdD; rw [if_pos c4]; exact cb)
      rw [q2h] at e6
      (have hcondQ := Bool.and_self; refine Todo.of ?_); (repeat' (first | ((with_reducible refine Todo.to ?_); (repeat (first | (simp only [↓rP, rT, rU, eI, eU, eB, eS, eBs, eL, eA, buildCells, sepsD, sepB, hdl, dvalX, DOp.kind, dval, frameFrom, dBin, dInt, dStr, dBeq, dUn, dLoad, cellsAt, retV, retL, DR.val, fzT, fzVs, fzV, fz1, DV.immB, IntKind.bits, dCallP, viewVs, viewV, view1, capVL, capV, viewL, noMemV, noMem, elemsOf, dAppend, dAppz, dStore, DV.one, alive, freezeAt, fzLL, fzL, bRow, bU, cellsOf, setFrom, DV.isU, lenMax, lenCap, Nat.reduceEqDiff, Nat.reduceAdd, ↓reduceIte, reduceCtorEq, Nat.reduceSub, Int.reduceToNat, Int.reducePow, Nat.reducePow, Int.reduceLE, Int.reduceLT, Nat.reduceLeDiff, Nat.reduceLT, Int.reduceBEq, Int.reduceBNe, Int.reduceEq, Int.reduceNe, Int.reduceAdd, Int.reduceSub, Int.reduceMul, Int.reduceNeg, Int.reduceTDiv, Int.reduceTMod, Int.reduceMod, Int.reduceDiv, Nat.reduceMul, forall_const, implies_true, d_norialaw42_SlotHolds, s_fewL_at, eActs, eEns, eIls, eImg, eImgs, ePrt, ePrts, eRows, eSs, eTy, eVn, eY, sls_len, ils_len, ils_rowsT, sls_rowsT, sls_tk0, ils_tk0, d3, rr, k0, wk, ei, e2, e4, e6, eI, eV, tk, gSt, gDt, d2', d3', d4', get4a, get4d, set4d, end_get, end_set, get3b, get3c, set3c, ils_len, List.append_assoc, List.drop_succ_cons, List.length_map , hcondQ]) | (simp (disch := omega) only [i64_id, u64_id, u8_id, getD_map'])))) | ((with_reducible refine And.intro ?_ ?_); · first | trivial | omega | (simp; done) | (simp; omega)) | ((first | ((with_reducible refine dwp_condI (t := ?_) ?_ (fun hcQ => ?_) (fun hcQ => ?_)); rotate_left; · rfl) | ((with_reducible refine dops_guardI (t := ?_) ?_ (fun hcQ => ?_) (fun hcQ => ?_)); rotate_left; · rfl)) <;> (have hn := hcQ; have hcondQ := hcQ) <;> (try simp only [decide_eq_true_eq, decide_eq_false_iff_not, beq_iff_eq, bne_iff_ne, ne_eq, Bool.and_eq_true, Bool.or_eq_true, Bool.not_eq_true, Bool.not_eq_false, beq_eq_false_iff_ne, bne_eq_false_iff_eq, Bool.not_eq_true', Bool.not_eq_false', Int.ofNat_lt, Int.ofNat_le, Bool.or_eq_false_iff, Bool.and_eq_false_imp, Decidable.not_not, gt_iff_lt, ge_iff_le] at hn) <;> (try (exfalso; omega)) <;> (refine Todo.of ?_)) | (((with_reducible refine dwp_condA ?_ ?_ ?_); · rfl) <;> (refine Todo.of ?_)))) <;> (try (first | (with_reducible rfl) | exact Nat.le_refl _ | exact Int.le_refl _ | assumption | omega))
      exact ⟨(j + 1, _, q2), by simp only [cut_some, cut_none, List.map_cons, List.map_nil, get_cons, Nk.get_nil, Nat.reduceEqDiff, ↓reduceIte, Nat.succ_ne_self, DV.cut, DV.inB, DObj.cut, List.take_nil, List.take_zero, if_true, Nat.zero_ne_one, Nat.one_ne_zero, DV.inBL, Bool.and_true, Bool.true_and, reduceCtorEq, Nat.zero_lt_one, decide_true, decide_false, Nat.reduceLT, List.take_succ_cons, Int.natCast_add, Int.natCast_one, List.length_append, List.length_cons, List.length_nil, Nat.zero_add] <;> rfl, ⟨by omega, fin _ r2 _, ow2, th2⟩, by simp only; omega⟩
    · rw [cb] at e4
      (have hcondQ := Bool.and_self; refine Todo.of ?_); (repeat' (first | ((with_reducible refine Todo.to ?_); (repeat (first | (simp only [↓rP, rT, rU, eI, eU, eB, eS, eBs, eL, eA, buildCells, sepsD, sepB, hdl, dvalX, DOp.kind, dval, frameFrom, dBin, dInt, dStr, dBeq, dUn, dLoad, cellsAt, retV, retL, DR.val, fzT, fzVs, fzV, fz1, DV.immB, IntKind.bits, dCallP, viewVs, viewV, view1, capVL, capV, viewL, noMemV, noMem, elemsOf, dAppend, dAppz, dStore, DV.one, alive, freezeAt, fzLL, fzL, bRow, bU, cellsOf, setFrom, DV.isU, lenMax, lenCap, Nat.reduceEqDiff, Nat.reduceAdd, ↓reduceIte, reduceCtorEq, Nat.reduceSub, Int.reduceToNat, Int.reducePow, Nat.reducePow, Int.reduceLE, Int.reduceLT, Nat.reduceLeDiff, Nat.reduceLT, Int.reduceBEq, Int.reduceBNe, Int.reduceEq, Int.reduceNe, Int.reduceAdd, Int.reduceSub, Int.reduceMul, Int.reduceNeg, Int.reduceTDiv, Int.reduceTMod, Int.reduceMod, Int.reduceDiv, Nat.reduceMul, forall_const, implies_true, d_norialaw42_SlotHolds, s_fewL_at, eActs, eEns, eIls, eImg, eImgs, ePrt, ePrts, eRows, eSs, eTy, eVn, eY, sls_len, ils_len, ils_rowsT, sls_rowsT, sls_tk0, ils_tk0, d3, rr, k0, wk, ei, e2, e4, e6, gSt, gDt, d2', d3', d4', get4a, get4d, set4d, end_get, end_set, get3b, get3c, set3c, ils_len, List.append_assoc, List.drop_succ_cons, List.length_map , hcondQ]) | (simp (disch := omega) only [i64_id, u64_id, u8_id, getD_map'])))) | ((with_reducible refine And.intro ?_ ?_); · first | trivial | omega | (simp; done) | (simp; omega)) | ((first | ((with_reducible refine dwp_condI (t := ?_) ?_ (fun hcQ => ?_) (fun hcQ => ?_)); rotate_left; · rfl) | ((with_reducible refine dops_guardI (t := ?_) ?_ (fun hcQ => ?_) (fun hcQ => ?_)); rotate_left; · rfl)) <;> (have hn := hcQ; have hcondQ := hcQ) <;> (try simp only [decide_eq_true_eq, decide_eq_false_iff_not, beq_iff_eq, bne_iff_ne, ne_eq, Bool.and_eq_true, Bool.or_eq_true, Bool.not_eq_true, Bool.not_eq_false, beq_eq_false_iff_ne, bne_eq_false_iff_eq, Bool.not_eq_true', Bool.not_eq_false', Int.ofNat_lt, Int.ofNat_le, Bool.or_eq_false_iff, Bool.and_eq_false_imp, Decidable.not_not, gt_iff_lt, ge_iff_le] at hn) <;> (try (exfalso; omega)) <;> (refine Todo.of ?_)) | (((with_reducible refine dwp_condA ?_ ?_ ?_); · rfl) <;> (refine Todo.of ?_)))) <;> (try (first | (with_reducible rfl) | exact Nat.le_refl _ | exact Int.le_refl _ | assumption | omega))
      exact ⟨(j + 1, _, q2), by simp only [cut_some, cut_none, List.map_cons, List.map_nil, get_cons, Nk.get_nil, Nat.reduceEqDiff, ↓reduceIte, Nat.succ_ne_self, DV.cut, DV.inB, DObj.cut, List.take_nil, List.take_zero, if_true, Nat.zero_ne_one, Nat.one_ne_zero, DV.inBL, Bool.and_true, Bool.true_and, reduceCtorEq, Nat.zero_lt_one, decide_true, decide_false, Nat.reduceLT, List.take_succ_cons, Int.natCast_add, Int.natCast_one, List.length_append, List.length_cons, List.length_nil, Nat.zero_add] <;> rfl, ⟨by omega, fin _ r2 _, ow2, th2⟩, by simp only; omega⟩
  have hd : holdS 0 q xi a.v a.d H = Sdrop 0 q H := by unfold holdS; rw [if_neg c2, if_neg c3, if_neg c4]
  rw [hd] at r2 gS2 gD2 e6
  rw [show one H 0 (oQ true (dropQ q)) = Sdrop 0 q H from rfl] at e5
  generalize Sdrop 0 q H = hp2 at r2 gS2 gD2 e6 e5
  rw [hH] at e5
  have gSt := fun t => get_app (t := t) gS2
  have gDt := fun t => get_app (t := t) gD2
  simp only [oSt] at e5 e2
  have d2' : (a.d == 2) = false := by simp [c2]
  have d3' : (a.d == 3) = false := by simp [c3]
  have d4' : (a.d == 4) = false := by simp [c4]
  have q2h : q2.he = q.he := sm (by unfold holdD; rw [if_neg c4])
  rw [q2h] at e6
  (have hcondQ := Bool.and_self; refine Todo.of ?_); (repeat' (first | ((with_reducible refine Todo.to ?_); (repeat (first | (simp only [↓rP, rT, rU, eI, eU, eB, eS, eBs, eL, eA, buildCells, sepsD, sepB, hdl, dvalX, DOp.kind, dval, frameFrom, dBin, dInt, dStr, dBeq, dUn, dLoad, cellsAt, retV, retL, DR.val, fzT, fzVs, fzV, fz1, DV.immB, IntKind.bits, dCallP, viewVs, viewV, view1, capVL, capV, viewL, noMemV, noMem, elemsOf, dAppend, dAppz, dStore, DV.one, alive, freezeAt, fzLL, fzL, bRow, bU, cellsOf, setFrom, DV.isU, lenMax, lenCap, Nat.reduceEqDiff, Nat.reduceAdd, ↓reduceIte, reduceCtorEq, Nat.reduceSub, Int.reduceToNat, Int.reducePow, Nat.reducePow, Int.reduceLE, Int.reduceLT, Nat.reduceLeDiff, Nat.reduceLT, Int.reduceBEq, Int.reduceBNe, Int.reduceEq, Int.reduceNe, Int.reduceAdd, Int.reduceSub, Int.reduceMul, Int.reduceNeg, Int.reduceTDiv, Int.reduceTMod, Int.reduceMod, Int.reduceDiv, Nat.reduceMul, forall_const, implies_true, d_norialaw42_SlotHolds, s_fewL_at, eActs, eEns, eIls, eImg, eImgs, ePrt, ePrts, eRows, eSs, eTy, eVn, eY, sls_len, ils_len, ils_rowsT, sls_rowsT, sls_tk0, ils_tk0, d3, rr, k0, wk, ei, e2, e5, e6, eI, eV, tk, gSt, gDt, d2', d3', d4', get4a, get4d, set4d, end_get, end_set, get3b, get3c, set3c, ils_len, List.append_assoc, List.drop_succ_cons, List.length_map , hcondQ]) | (simp (disch := omega) only [i64_id, u64_id, u8_id, getD_map'])))) | ((with_reducible refine And.intro ?_ ?_); · first | trivial | omega | (simp; done) | (simp; omega)) | ((first | ((with_reducible refine dwp_condI (t := ?_) ?_ (fun hcQ => ?_) (fun hcQ => ?_)); rotate_left; · rfl) | ((with_reducible refine dops_guardI (t := ?_) ?_ (fun hcQ => ?_) (fun hcQ => ?_)); rotate_left; · rfl)) <;> (have hn := hcQ; have hcondQ := hcQ) <;> (try simp only [decide_eq_true_eq, decide_eq_false_iff_not, beq_iff_eq, bne_iff_ne, ne_eq, Bool.and_eq_true, Bool.or_eq_true, Bool.not_eq_true, Bool.not_eq_false, beq_eq_false_iff_ne, bne_eq_false_iff_eq, Bool.not_eq_true', Bool.not_eq_false', Int.ofNat_lt, Int.ofNat_le, Bool.or_eq_false_iff, Bool.and_eq_false_imp, Decidable.not_not, gt_iff_lt, ge_iff_le] at hn) <;> (try (exfalso; omega)) <;> (refine Todo.of ?_)) | (((with_reducible refine dwp_condA ?_ ?_ ?_); · rfl) <;> (refine Todo.of ?_)))) <;> (try (first | (with_reducible rfl) | exact Nat.le_refl _ | exact Int.le_refl _ | assumption | omega))
  exact ⟨(j + 1, _, q2), by simp only [cut_some, cut_none, List.map_cons, List.map_nil, get_cons, Nk.get_nil, Nat.reduceEqDiff, ↓reduceIte, Nat.succ_ne_self, DV.cut, DV.inB, DObj.cut, List.take_nil, List.take_zero, if_true, Nat.zero_ne_one, Nat.one_ne_zero, DV.inBL, Bool.and_true, Bool.true_and, reduceCtorEq, Nat.zero_lt_one, decide_true, decide_false, Nat.reduceLT, List.take_succ_cons, Int.natCast_add, Int.natCast_one, List.length_append, List.length_cons, List.length_nil, Nat.zero_add] <;> rfl, ⟨by omega, fin _ r2 _, ow2, th2⟩, by simp only; omega⟩
theorem slotHolds_tells (dvs : List DV) (h : HasAll Try.prog [22, 23] dvs) : TellsP Try.prog 3 dvs (.bool true) := by
  obtain ⟨d1, r, rfl, h1, d2, r', rfl, h2, rfl⟩ := h
  obtain ⟨l, hl, hw⟩ := HasV_one (by kernel_rfl) rfl reads_Imgs h1
  obtain ⟨a, ha, _⟩ := HasV_one (by kernel_rfl) rfl reads_Acts h2
  injection hl with hl
  injection ha with ha
  subst hl ha
  have e := s_lawHolds_at l a
  have := (ok_norialaw42_SlotHolds _ (by rw [e]; exact hw)).2
  rw [e] at this
  exact this
end Go.Proofs.Ytfjddinibppmdaa
