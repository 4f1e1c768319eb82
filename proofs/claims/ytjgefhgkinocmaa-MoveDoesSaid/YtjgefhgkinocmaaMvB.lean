/- Numbers one behind the other; what a step makes. -/
import Derived.Test.YtjgefhgkinocmaaMvA
set_option linter.all false
set_option maxRecDepth 20000
namespace Go.Proofs.Ytjgefhgkinocmaa
open Go.Nk

/-- What Grow leaves behind that nobody names. -/
def gH (n : Nat) : List DObj := if n = 0 then [] else [⟨.dead, 1, List.replicate n [.int .i64 0]⟩, ⟨.dead, 1, []⟩]
noncomputable def s_Grow : List DV → List DObj → Res := specG (fun (x : Nat × Nat) a hp => a = [.nil, .int .i64 x.1] ∧ x.2 = hp.length) (fun x => (x.1 ≤ 1000000000, .own (x.2 + (gH x.1).length) 0 0 0)) fun x hp => hp ++ (gH x.1 ++ [⟨.imm, 1, []⟩])
theorem s_Grow_run (n : Nat) (hp : List DObj) : s_Grow [.nil, .int .i64 n] hp = ⟨n ≤ 1000000000, .own (hp.length + (gH n).length) 0 0 0, hp ++ (gH n ++ [⟨.imm, 1, []⟩])⟩ := by
  refine specG_at (x := (n, hp.length)) ?_ ⟨rfl, rfl⟩
  rintro ⟨x1, x2⟩ ⟨y1, y2⟩ a hp ⟨rfl, rfl⟩ ⟨h, rfl⟩
  simp only [List.cons.injEq, DV.int.injEq, true_and, and_true] at h
  have : x1 = y1 := by omega
  subst this; rfl
theorem ok_slices_Grow_int64_int64 : OkH Try.prog 31 s_Grow := by
  refine OkH.mkGH (ps := []) (hs := []) trivial trivial m_slices_Grow_int64_int64 (by rintro x a hp ⟨rfl, _⟩; rfl) ?_
  rintro ⟨n, L⟩ a hp ⟨rfl, rfl⟩ hl
  simp only at hl ⊢
  
  by_cases q : n = 0
  · subst q
    (have hcondQ := Bool.and_self; refine Todo.of ?_); (repeat' (first | ((with_reducible refine Todo.to ?_); (repeat (first | (simp only [↓rP, rT, rU, eI, eU, eB, eS, eBs, eL, eA, buildCells, sepsD, sepB, hdl, dvalX, DOp.kind, dval, frameFrom, dBin, dInt, dStr, dBeq, dUn, dLoad, cellsAt, retV, retL, DR.val, fzT, fzVs, fzV, fz1, DV.immB, IntKind.bits, dCallP, viewVs, viewV, view1, capVL, capV, viewL, noMemV, noMem, elemsOf, dAppend, dAppz, dStore, DV.one, alive, freezeAt, fzLL, fzL, bRow, bU, cellsOf, setFrom, DV.isU, lenMax, lenCap, Nat.reduceEqDiff, Nat.reduceAdd, ↓reduceIte, reduceCtorEq, Nat.reduceSub, Int.reduceToNat, Int.reducePow, Nat.reducePow, Int.reduceLE, Int.reduceLT, Nat.reduceLeDiff, Nat.reduceLT, Int.reduceBEq, Int.reduceBNe, Int.reduceEq, Int.reduceNe, Int.reduceAdd, Int.reduceSub, Int.reduceMul, Int.reduceNeg, Int.reduceTDiv, Int.reduceTMod, Int.reduceMod, Int.reduceDiv, Nat.reduceMul, forall_const, implies_true, d_slices_Grow_int64_int64, eIl, eIr, ePln, ePlns, il_len, gH, List.append_assoc, Nat.add_zero, lst_get, lst_get1, lst_set, lst_set1, last_get, last_set , hcondQ]) | (simp (disch := omega) only [i64_id, u64_id, u8_id, getD_map'])))) | ((with_reducible refine And.intro ?_ ?_); · first | trivial | omega | (simp; done) | (simp; omega)) | ((first | ((with_reducible refine dwp_condI (t := ?_) ?_ (fun hcQ => ?_) (fun hcQ => ?_)); rotate_left; · rfl) | ((with_reducible refine dops_guardI (t := ?_) ?_ (fun hcQ => ?_) (fun hcQ => ?_)); rotate_left; · rfl)) <;> (have hn := hcQ; have hcondQ := hcQ) <;> (try simp only [decide_eq_true_eq, decide_eq_false_iff_not, beq_iff_eq, bne_iff_ne, ne_eq, Bool.and_eq_true, Bool.or_eq_true, Bool.not_eq_true, Bool.not_eq_false, beq_eq_false_iff_ne, bne_eq_false_iff_eq, Bool.not_eq_true', Bool.not_eq_false', Int.ofNat_lt, Int.ofNat_le, Bool.or_eq_false_iff, Bool.and_eq_false_imp, Decidable.not_not, gt_iff_lt, ge_iff_le] at hn) <;> (try (exfalso; omega)) <;> (refine Todo.of ?_)) | (((with_reducible refine dwp_condA ?_ ?_ ?_); · rfl) <;> (refine Todo.of ?_)))) <;> (try (first | (with_reducible rfl) | exact Nat.le_refl _ | exact Int.le_refl _ | assumption | omega))
  · (have hcondQ := Bool.and_self; refine Todo.of ?_); (repeat' (first | ((with_reducible refine Todo.to ?_); (repeat (first | (simp only [↓rP, rT, rU, eI, eU, eB, eS, eBs, eL, eA, buildCells, sepsD, sepB, hdl, dvalX, DOp.kind, dval, frameFrom, dBin, dInt, dStr, dBeq, dUn, dLoad, cellsAt, retV, retL, DR.val, fzT, fzVs, fzV, fz1, DV.immB, IntKind.bits, dCallP, viewVs, viewV, view1, capVL, capV, viewL, noMemV, noMem, elemsOf, dAppend, dAppz, dStore, DV.one, alive, freezeAt, fzLL, fzL, bRow, bU, cellsOf, setFrom, DV.isU, lenMax, lenCap, Nat.reduceEqDiff, Nat.reduceAdd, ↓reduceIte, reduceCtorEq, Nat.reduceSub, Int.reduceToNat, Int.reducePow, Nat.reducePow, Int.reduceLE, Int.reduceLT, Nat.reduceLeDiff, Nat.reduceLT, Int.reduceBEq, Int.reduceBNe, Int.reduceEq, Int.reduceNe, Int.reduceAdd, Int.reduceSub, Int.reduceMul, Int.reduceNeg, Int.reduceTDiv, Int.reduceTMod, Int.reduceMod, Int.reduceDiv, Nat.reduceMul, forall_const, implies_true, d_slices_Grow_int64_int64, eIl, eIr, ePln, ePlns, il_len, gH, q, List.append_assoc, Nat.add_zero, lst_get, lst_get1, lst_set, lst_set1, last_get, last_set, dSlice, dBound, Int.sub_zero , hcondQ]) | (simp (disch := omega) only [i64_id, u64_id, u8_id, getD_map'])))) | ((with_reducible refine And.intro ?_ ?_); · first | trivial | omega | (simp; done) | (simp; omega)) | ((first | ((with_reducible refine dwp_condI (t := ?_) ?_ (fun hcQ => ?_) (fun hcQ => ?_)); rotate_left; · rfl) | ((with_reducible refine dops_guardI (t := ?_) ?_ (fun hcQ => ?_) (fun hcQ => ?_)); rotate_left; · rfl)) <;> (have hn := hcQ; have hcondQ := hcQ) <;> (try simp only [decide_eq_true_eq, decide_eq_false_iff_not, beq_iff_eq, bne_iff_ne, ne_eq, Bool.and_eq_true, Bool.or_eq_true, Bool.not_eq_true, Bool.not_eq_false, beq_eq_false_iff_ne, bne_eq_false_iff_eq, Bool.not_eq_true', Bool.not_eq_false', Int.ofNat_lt, Int.ofNat_le, Bool.or_eq_false_iff, Bool.and_eq_false_imp, Decidable.not_not, gt_iff_lt, ge_iff_le] at hn) <;> (try (exfalso; omega)) <;> (refine Todo.of ?_)) | (((with_reducible refine dwp_condA ?_ ?_ ?_); · rfl) <;> (refine Todo.of ?_)))) <;> (try (first | (with_reducible rfl) | exact Nat.le_refl _ | exact Int.le_refl _ | assumption | omega))
theorem il_rowsT (l : List Int) : (∀ e ∈ il l, e.length = 1) = True := eq_true (il_rows l)
theorem il_appendR (a b : List Int) : il a ++ il b = il (a ++ b) := by simp [il]
noncomputable def s_ConcatH : List DV → List DObj → Res := specG (fun (x : List (List Int) × Nat) a hp => a = [.sl (x.1.map cIr)] ∧ x.2 = hp.length) (fun x => (x.1.length ≤ 1000000 ∧ x.1.flatten.length ≤ 1000000000, .own (x.2 + (gH x.1.flatten.length).length) x.1.flatten.length 0 x.1.flatten.length)) fun x hp => hp ++ (gH x.1.flatten.length ++ [⟨.imm, 1, il x.1.flatten⟩])
theorem s_ConcatH_run (v : List (List Int)) (hp : List DObj) : s_ConcatH [.sl (v.map cIr)] hp = ⟨v.length ≤ 1000000 ∧ v.flatten.length ≤ 1000000000, .own (hp.length + (gH v.flatten.length).length) v.flatten.length 0 v.flatten.length, hp ++ (gH v.flatten.length ++ [⟨.imm, 1, il v.flatten⟩])⟩ := by
  refine specG_at (x := (v, hp.length)) ?_ ⟨rfl, rfl⟩
  rintro ⟨x, m⟩ ⟨y, m'⟩ a hp ⟨rfl, rfl⟩ ⟨h, rfl⟩
  simp only [List.cons.injEq, DV.sl.injEq, and_true] at h
  rw [map_inj cIr_inj _ _ h]
theorem ok_slices_Concat_int64_int64 : OkH Try.prog 23 s_ConcatH := by
  refine OkH.mkGH (ps := []) (hs := [(31, s_Grow)]) trivial ⟨ok_slices_Grow_int64_int64, trivial⟩ m_slices_Concat_int64_int64 (by rintro x a hp ⟨rfl, _⟩; rfl) ?_
  rintro ⟨v, m⟩ a hp ⟨rfl, rfl⟩ ⟨hl, hf⟩
  simp only at hl hf ⊢
  
  (have hcondQ := Bool.and_self; refine Todo.of ?_); (repeat' (first | ((with_reducible refine Todo.to ?_); (repeat (first | (simp only [↓rP, rT, rU, eI, eU, eB, eS, eBs, eL, eA, buildCells, sepsD, sepB, hdl, dvalX, DOp.kind, dval, frameFrom, dBin, dInt, dStr, dBeq, dUn, dLoad, cellsAt, retV, retL, DR.val, fzT, fzVs, fzV, fz1, DV.immB, IntKind.bits, dCallP, viewVs, viewV, view1, capVL, capV, viewL, noMemV, noMem, elemsOf, dAppend, dAppz, dStore, DV.one, alive, freezeAt, fzLL, fzL, bRow, bU, cellsOf, setFrom, DV.isU, lenMax, lenCap, Nat.reduceEqDiff, Nat.reduceAdd, ↓reduceIte, reduceCtorEq, Nat.reduceSub, Int.reduceToNat, Int.reducePow, Nat.reducePow, Int.reduceLE, Int.reduceLT, Nat.reduceLeDiff, Nat.reduceLT, Int.reduceBEq, Int.reduceBNe, Int.reduceEq, Int.reduceNe, Int.reduceAdd, Int.reduceSub, Int.reduceMul, Int.reduceNeg, Int.reduceTDiv, Int.reduceTMod, Int.reduceMod, Int.reduceDiv, Nat.reduceMul, forall_const, implies_true, d_slices_Concat_int64_int64, eIl, eIr, ePln, ePlns, il_len, il_rowsT , hcondQ]) | (simp (disch := omega) only [i64_id, u64_id, u8_id, getD_map'])))) | ((with_reducible refine And.intro ?_ ?_); · first | trivial | omega | (simp; done) | (simp; omega)) | ((first | ((with_reducible refine dwp_condI (t := ?_) ?_ (fun hcQ => ?_) (fun hcQ => ?_)); rotate_left; · rfl) | ((with_reducible refine dops_guardI (t := ?_) ?_ (fun hcQ => ?_) (fun hcQ => ?_)); rotate_left; · rfl)) <;> (have hn := hcQ; have hcondQ := hcQ) <;> (try simp only [decide_eq_true_eq, decide_eq_false_iff_not, beq_iff_eq, bne_iff_ne, ne_eq, Bool.and_eq_true, Bool.or_eq_true, Bool.not_eq_true, Bool.not_eq_false, beq_eq_false_iff_ne, bne_eq_false_iff_eq, Bool.not_eq_true', Bool.not_eq_false', Int.ofNat_lt, Int.ofNat_le, Bool.or_eq_false_iff, Bool.and_eq_false_imp, Decidable.not_not, gt_iff_lt, ge_iff_le] at hn) <;> (try (exfalso; omega)) <;> (refine Todo.of ?_)) | (((with_reducible refine dwp_condA ?_ ?_ ?_); · rfl) <;> (refine Todo.of ?_)))) <;> (try (first | (with_reducible rfl) | exact Nat.le_refl _ | exact Int.le_refl _ | assumption | omega))
  refine dwp_each v (fun k (n : Nat) => ⟨[(0, .sl (v.map cIr)), (3, .int .i64 n), (9, .sl (v.map cIr)), (10, .int .i64 v.length), (11, .int .i64 k)], hp⟩) (fun k r n => n + r.flatten.length = v.flatten.length) 0 trivial (by simp only [cut_some, cut_none, List.map_cons, List.map_nil, get_cons, Nk.get_nil, Nat.reduceEqDiff, ↓reduceIte, Nat.succ_ne_self, DV.cut, DV.inB, DObj.cut, List.take_nil, List.take_zero, if_true, Nat.zero_ne_one, Nat.one_ne_zero, DV.inBL, Bool.and_true, Bool.true_and, reduceCtorEq, Nat.zero_lt_one, decide_true, decide_false, Nat.reduceLT, List.take_succ_cons, Int.natCast_add, Int.natCast_one, List.length_append, List.length_cons, List.length_nil, Nat.zero_add] <;> rfl) (by simp) (fun k x r n d hx hd hr => ?_) (fun k n e hr => ?_)
  · simp only [List.flatten_cons, List.length_append] at hr
    (have hcondQ := Bool.and_self; refine Todo.of ?_); (repeat' (first | ((with_reducible refine Todo.to ?_); (repeat (first | (simp only [↓rP, rT, rU, eI, eU, eB, eS, eBs, eL, eA, buildCells, sepsD, sepB, hdl, dvalX, DOp.kind, dval, frameFrom, dBin, dInt, dStr, dBeq, dUn, dLoad, cellsAt, retV, retL, DR.val, fzT, fzVs, fzV, fz1, DV.immB, IntKind.bits, dCallP, viewVs, viewV, view1, capVL, capV, viewL, noMemV, noMem, elemsOf, dAppend, dAppz, dStore, DV.one, alive, freezeAt, fzLL, fzL, bRow, bU, cellsOf, setFrom, DV.isU, lenMax, lenCap, Nat.reduceEqDiff, Nat.reduceAdd, ↓reduceIte, reduceCtorEq, Nat.reduceSub, Int.reduceToNat, Int.reducePow, Nat.reducePow, Int.reduceLE, Int.reduceLT, Nat.reduceLeDiff, Nat.reduceLT, Int.reduceBEq, Int.reduceBNe, Int.reduceEq, Int.reduceNe, Int.reduceAdd, Int.reduceSub, Int.reduceMul, Int.reduceNeg, Int.reduceTDiv, Int.reduceTMod, Int.reduceMod, Int.reduceDiv, Nat.reduceMul, forall_const, implies_true, d_slices_Concat_int64_int64, eIl, eIr, ePln, ePlns, il_len, il_rowsT, d, map_getD cIr hx , hcondQ]) | (simp (disch := omega) only [i64_id, u64_id, u8_id, getD_map'])))) | ((with_reducible refine And.intro ?_ ?_); · first | trivial | omega | (simp; done) | (simp; omega)) | ((first | ((with_reducible refine dwp_condI (t := ?_) ?_ (fun hcQ => ?_) (fun hcQ => ?_)); rotate_left; · rfl) | ((with_reducible refine dops_guardI (t := ?_) ?_ (fun hcQ => ?_) (fun hcQ => ?_)); rotate_left; · rfl)) <;> (have hn := hcQ; have hcondQ := hcQ) <;> (try simp only [decide_eq_true_eq, decide_eq_false_iff_not, beq_iff_eq, bne_iff_ne, ne_eq, Bool.and_eq_true, Bool.or_eq_true, Bool.not_eq_true, Bool.not_eq_false, beq_eq_false_iff_ne, bne_eq_false_iff_eq, Bool.not_eq_true', Bool.not_eq_false', Int.ofNat_lt, Int.ofNat_le, Bool.or_eq_false_iff, Bool.and_eq_false_imp, Decidable.not_not, gt_iff_lt, ge_iff_le] at hn) <;> (try (exfalso; omega)) <;> (refine Todo.of ?_)) | (((with_reducible refine dwp_condA ?_ ?_ ?_); · rfl) <;> (refine Todo.of ?_)))) <;> (try (first | (with_reducible rfl) | exact Nat.le_refl _ | exact Int.le_refl _ | assumption | omega))
    exact ⟨n + x.length, by simp only [cut_some, cut_none, List.map_cons, List.map_nil, get_cons, Nk.get_nil, Nat.reduceEqDiff, ↓reduceIte, Nat.succ_ne_self, DV.cut, DV.inB, DObj.cut, List.take_nil, List.take_zero, if_true, Nat.zero_ne_one, Nat.one_ne_zero, DV.inBL, Bool.and_true, Bool.true_and, reduceCtorEq, Nat.zero_lt_one, decide_true, decide_false, Nat.reduceLT, List.take_succ_cons, Int.natCast_add, Int.natCast_one, List.length_append, List.length_cons, List.length_nil, Nat.zero_add] <;> rfl, by omega⟩
  simp only [List.flatten_nil, List.length_nil, Nat.add_zero] at hr
  subst hr
  have e1 := s_Grow_run v.flatten.length hp
  (have hcondQ := Bool.and_self; refine Todo.of ?_); (repeat' (first | ((with_reducible refine Todo.to ?_); (repeat (first | (simp only [↓rP, rT, rU, eI, eU, eB, eS, eBs, eL, eA, buildCells, sepsD, sepB, hdl, dvalX, DOp.kind, dval, frameFrom, dBin, dInt, dStr, dBeq, dUn, dLoad, cellsAt, retV, retL, DR.val, fzT, fzVs, fzV, fz1, DV.immB, IntKind.bits, dCallP, viewVs, viewV, view1, capVL, capV, viewL, noMemV, noMem, elemsOf, dAppend, dAppz, dStore, DV.one, alive, freezeAt, fzLL, fzL, bRow, bU, cellsOf, setFrom, DV.isU, lenMax, lenCap, Nat.reduceEqDiff, Nat.reduceAdd, ↓reduceIte, reduceCtorEq, Nat.reduceSub, Int.reduceToNat, Int.reducePow, Nat.reducePow, Int.reduceLE, Int.reduceLT, Nat.reduceLeDiff, Nat.reduceLT, Int.reduceBEq, Int.reduceBNe, Int.reduceEq, Int.reduceNe, Int.reduceAdd, Int.reduceSub, Int.reduceMul, Int.reduceNeg, Int.reduceTDiv, Int.reduceTMod, Int.reduceMod, Int.reduceDiv, Nat.reduceMul, forall_const, implies_true, d_slices_Concat_int64_int64, eIl, eIr, ePln, ePlns, il_len, il_rowsT, e, e1 , hcondQ]) | (simp (disch := omega) only [i64_id, u64_id, u8_id, getD_map'])))) | ((with_reducible refine And.intro ?_ ?_); · first | trivial | omega | (simp; done) | (simp; omega)) | ((first | ((with_reducible refine dwp_condI (t := ?_) ?_ (fun hcQ => ?_) (fun hcQ => ?_)); rotate_left; · rfl) | ((with_reducible refine dops_guardI (t := ?_) ?_ (fun hcQ => ?_) (fun hcQ => ?_)); rotate_left; · rfl)) <;> (have hn := hcQ; have hcondQ := hcQ) <;> (try simp only [decide_eq_true_eq, decide_eq_false_iff_not, beq_iff_eq, bne_iff_ne, ne_eq, Bool.and_eq_true, Bool.or_eq_true, Bool.not_eq_true, Bool.not_eq_false, beq_eq_false_iff_ne, bne_eq_false_iff_eq, Bool.not_eq_true', Bool.not_eq_false', Int.ofNat_lt, Int.ofNat_le, Bool.or_eq_false_iff, Bool.and_eq_false_imp, Decidable.not_not, gt_iff_lt, ge_iff_le] at hn) <;> (try (exfalso; omega)) <;> (refine Todo.of ?_)) | (((with_reducible refine dwp_condA ?_ ?_ ?_); · rfl) <;> (refine Todo.of ?_)))) <;> (try (first | (with_reducible rfl) | exact Nat.le_refl _ | exact Int.le_refl _ | assumption | omega))
  refine dwp_each v (fun k (o : List Int) => ⟨[(6, .own (hp.length + (gH v.flatten.length).length) o.length 0 o.length), (25, .sl (v.map cIr)), (26, .int .i64 v.length), (27, .int .i64 k)], hp ++ (gH v.flatten.length ++ [⟨.imm, 1, il o⟩])⟩) (fun k r o => o ++ r.flatten = v.flatten) [] trivial (by simp only [cut_some, cut_none, List.map_cons, List.map_nil, get_cons, Nk.get_nil, Nat.reduceEqDiff, ↓reduceIte, Nat.succ_ne_self, DV.cut, DV.inB, DObj.cut, List.take_nil, List.take_zero, if_true, Nat.zero_ne_one, Nat.one_ne_zero, DV.inBL, Bool.and_true, Bool.true_and, reduceCtorEq, Nat.zero_lt_one, decide_true, decide_false, Nat.reduceLT, List.take_succ_cons, Int.natCast_add, Int.natCast_one, List.length_append, List.length_cons, List.length_nil, Nat.zero_add] <;> rfl) rfl (fun k x r o d hx hd hr => ?_) (fun k o e hr => ?_)
  · simp only [List.flatten_cons] at hr
    have hb : o.length + x.length ≤ v.flatten.length := by rw [← hr]; simp
    (have hcondQ := Bool.and_self; refine Todo.of ?_); (repeat' (first | ((with_reducible refine Todo.to ?_); (repeat (first | (simp only [↓rP, rT, rU, eI, eU, eB, eS, eBs, eL, eA, buildCells, sepsD, sepB, hdl, dvalX, DOp.kind, dval, frameFrom, dBin, dInt, dStr, dBeq, dUn, dLoad, cellsAt, retV, retL, DR.val, fzT, fzVs, fzV, fz1, DV.immB, IntKind.bits, dCallP, viewVs, viewV, view1, capVL, capV, viewL, noMemV, noMem, elemsOf, dAppend, dAppz, dStore, DV.one, alive, freezeAt, fzLL, fzL, bRow, bU, cellsOf, setFrom, DV.isU, lenMax, lenCap, Nat.reduceEqDiff, Nat.reduceAdd, ↓reduceIte, reduceCtorEq, Nat.reduceSub, Int.reduceToNat, Int.reducePow, Nat.reducePow, Int.reduceLE, Int.reduceLT, Nat.reduceLeDiff, Nat.reduceLT, Int.reduceBEq, Int.reduceBNe, Int.reduceEq, Int.reduceNe, Int.reduceAdd, Int.reduceSub, Int.reduceMul, Int.reduceNeg, Int.reduceTDiv, Int.reduceTMod, Int.reduceMod, Int.reduceDiv, Nat.reduceMul, forall_const, implies_true, d_slices_Concat_int64_int64, eIl, eIr, ePln, ePlns, il_len, il_rowsT, d, map_getD cIr hx, List.append_assoc, Nat.add_zero, lst_get, lst_get1, lst_set, lst_set1, last_get, last_set, il_appendR , hcondQ]) | (simp (disch := omega) only [i64_id, u64_id, u8_id, getD_map'])))) | ((with_reducible refine And.intro ?_ ?_); · first | trivial | omega | (simp; done) | (simp; omega)) | ((first | ((with_reducible refine dwp_condI (t := ?_) ?_ (fun hcQ => ?_) (fun hcQ => ?_)); rotate_left; · rfl) | ((with_reducible refine dops_guardI (t := ?_) ?_ (fun hcQ => ?_) (fun hcQ => ?_)); rotate_left; · rfl)) <;> (have hn := hcQ; have hcondQ := hcQ) <;> (try simp only [decide_eq_true_eq, decide_eq_false_iff_not, beq_iff_eq, bne_iff_ne, ne_eq, Bool.and_eq_true, Bool.or_eq_true, Bool.not_eq_true, Bool.not_eq_false, beq_eq_false_iff_ne, bne_eq_false_iff_eq, Bool.not_eq_true', Bool.not_eq_false', Int.ofNat_lt, Int.ofNat_le, Bool.or_eq_false_iff, Bool.and_eq_false_imp, Decidable.not_not, gt_iff_lt, ge_iff_le] at hn) <;> (try (exfalso; omega)) <;> (refine Todo.of ?_)) | (((with_reducible refine dwp_condA ?_ ?_ ?_); · rfl) <;> (refine Todo.of ?_)))) <;> (try (first | (with_reducible rfl) | exact Nat.le_refl _ | exact Int.le_refl _ | assumption | omega))
    exact ⟨o ++ x, by simp only [cut_some, cut_none, List.map_cons, List.map_nil, get_cons, Nk.get_nil, Nat.reduceEqDiff, ↓reduceIte, Nat.succ_ne_self, DV.cut, DV.inB, DObj.cut, List.take_nil, List.take_zero, if_true, Nat.zero_ne_one, Nat.one_ne_zero, DV.inBL, Bool.and_true, Bool.true_and, reduceCtorEq, Nat.zero_lt_one, decide_true, decide_false, Nat.reduceLT, List.take_succ_cons, Int.natCast_add, Int.natCast_one, List.length_append, List.length_cons, List.length_nil, Nat.zero_add] <;> rfl, by simpa using hr⟩
  · simp only [List.flatten_nil, List.append_nil] at hr
    subst hr
    (have hcondQ := Bool.and_self; refine Todo.of ?_); (repeat' (first | ((with_reducible refine Todo.to ?_); (repeat (first | (simp only [↓rP, rT, rU, eI, eU, eB, eS, eBs, eL, eA, buildCells, sepsD, sepB, hdl, dvalX, DOp.kind, dval, frameFrom, dBin, dInt, dStr, dBeq, dUn, dLoad, cellsAt, retV, retL, DR.val, fzT, fzVs, fzV, fz1, DV.immB, IntKind.bits, dCallP, viewVs, viewV, view1, capVL, capV, viewL, noMemV, noMem, elemsOf, dAppend, dAppz, dStore, DV.one, alive, freezeAt, fzLL, fzL, bRow, bU, cellsOf, setFrom, DV.isU, lenMax, lenCap, Nat.reduceEqDiff, Nat.reduceAdd, ↓reduceIte, reduceCtorEq, Nat.reduceSub, Int.reduceToNat, Int.reducePow, Nat.reducePow, Int.reduceLE, Int.reduceLT, Nat.reduceLeDiff, Nat.reduceLT, Int.reduceBEq, Int.reduceBNe, Int.reduceEq, Int.reduceNe, Int.reduceAdd, Int.reduceSub, Int.reduceMul, Int.reduceNeg, Int.reduceTDiv, Int.reduceTMod, Int.reduceMod, Int.reduceDiv, Nat.reduceMul, forall_const, implies_true, d_slices_Concat_int64_int64, eIl, eIr, ePln, ePlns, il_len, il_rowsT, e, endH_normal , hcondQ]) | (simp (disch := omega) only [i64_id, u64_id, u8_id, getD_map'])))) | ((with_reducible refine And.intro ?_ ?_); · first | trivial | omega | (simp; done) | (simp; omega)) | ((first | ((with_reducible refine dwp_condI (t := ?_) ?_ (fun hcQ => ?_) (fun hcQ => ?_)); rotate_left; · rfl) | ((with_reducible refine dops_guardI (t := ?_) ?_ (fun hcQ => ?_) (fun hcQ => ?_)); rotate_left; · rfl)) <;> (have hn := hcQ; have hcondQ := hcQ) <;> (try simp only [decide_eq_true_eq, decide_eq_false_iff_not, beq_iff_eq, bne_iff_ne, ne_eq, Bool.and_eq_true, Bool.or_eq_true, Bool.not_eq_true, Bool.not_eq_false, beq_eq_false_iff_ne, bne_eq_false_iff_eq, Bool.not_eq_true', Bool.not_eq_false', Int.ofNat_lt, Int.ofNat_le, Bool.or_eq_false_iff, Bool.and_eq_false_imp, Decidable.not_not, gt_iff_lt, ge_iff_le] at hn) <;> (try (exfalso; omega)) <;> (refine Todo.of ?_)) | (((with_reducible refine dwp_condA ?_ ?_ ?_); · rfl) <;> (refine Todo.of ?_)))) <;> (try (first | (with_reducible rfl) | exact Nat.le_refl _ | exact Int.le_refl _ | assumption | omega))

/-! what a step makes -/
structure Told where
  v : List Int
  n : Int
  e : Int
@[reducible] def cTold (t : Told) : List DV := [.sl (il t.v), .int .i64 t.n, .int .i64 t.e]
def zerosF (n : Int) : List Int := List.replicate n.toNat 0
def runF (p : Pln) (old : List Int) (fuel : Int) : Told :=
  let r := vmF p.code (old ++ zerosF p.len) fuel
  if r.2.2 = 0 then ⟨r.1.drop old.length, r.2.1, 0⟩ else ⟨[], r.2.1, r.2.2⟩
def oneF (p : Pln) (old : List Int) (fuel : Int) : Told :=
  if p.kind = 1 then ⟨(old.take (p.old + p.len).toNat).drop p.old.toNat, 0, 0⟩ else if p.kind = 2 then ⟨p.init, 0, 0⟩ else runF p old fuel
structure okOne (p : Pln) (old : List Int) (fuel : Int) : Prop where
  l0 : 1 ≤ p.len
  l8 : p.len ≤ 8
  o : old.length ≤ 1100
  k1 : p.kind = 1 → 0 ≤ p.old ∧ p.old + p.len ≤ old.length
  i : p.init.length ≤ 20
  c : p.code.length ≤ 1500
  f : fuel ≤ 3000
  ci : ∀ x ∈ old, in64 x
  ins : ∀ i ∈ p.code, in64 i.n
theorem okOne.vm {p : Pln} {old : List Int} {fuel : Int} (h : okOne p old fuel) : okVm p.code (old ++ zerosF p.len) fuel := by
  have := h.o; have := h.l8; have := h.c; have := h.f; have := h.l0
  refine ⟨by omega, by omega, h.ins, by simp [zerosF]; omega, fun x hx => ?_⟩
  rcases List.mem_append.1 hx with hx | hx
  · exact h.ci x hx
  · simp only [zerosF, List.mem_replicate] at hx; rw [hx.2]; exact ⟨by omega, by omega⟩
theorem vm_facts {code : List Ins} {cells : List Int} {fuel : Int} (h : okVm code cells fuel) : ((vmF code cells fuel).2.2 = 0 → (vmF code cells fuel).1.length = cells.length) ∧ 0 ≤ (vmF code cells fuel).2.1 ∧ (vmF code cells fuel).2.1 ≤ fuel.toNat := by
  have h1 := h.len; have h2 := h.fuel
  have := runN_ok code h.ins h.len fuel.toNat (m0 cells) (okM_0 h.c h.ci) (by simp [m0]) (by simp [m0]; omega)
  obtain ⟨r1, r2, r3, r4⟩ := this
  have z : (m0 cells).used = 0 := rfl
  rw [z] at r3 r4
  unfold vmF
  dsimp only
  generalize runN code fuel.toNat (m0 cells) = R at *
  split
  · exact ⟨fun _ => rfl, r3, by simp only; omega⟩
  · exact ⟨fun _ => r2, r3, by simp only; omega⟩
theorem one_n {p : Pln} {old : List Int} {fuel : Int} (h : okOne p old fuel) : 0 ≤ (oneF p old fuel).n ∧ (oneF p old fuel).n ≤ fuel.toNat := by
  unfold oneF
  split
  · exact ⟨Int.le_refl _, by simp only; omega⟩
  split
  · exact ⟨Int.le_refl _, by simp only; omega⟩
  unfold runF
  have := (vm_facts h.vm).2
  dsimp only
  split <;> exact this
theorem one_v {p : Pln} {old : List Int} {fuel : Int} (h : okOne p old fuel) : (oneF p old fuel).v.length ≤ 20 := by
  have h8 := h.l8; have h0 := h.l0
  unfold oneF
  split
  · rename_i k
    have := h.k1 k
    simp; omega
  split
  · exact h.i
  unfold runF
  have := (vm_facts h.vm).1
  dsimp only
  split
  · rename_i e
    have := this e
    show ((vmF p.code (old ++ zerosF p.len) fuel).1.drop old.length).length ≤ 20
    rw [List.length_drop, this, List.length_append]; simp only [zerosF, List.length_replicate]; omega
  · simp
theorem il_rep (n : Nat) : List.replicate n [DV.int .i64 0] = il (List.replicate n 0) := by simp [il]
theorem slice_il {hp : List DObj} {l : List Int} {a b : Int} (h1 : 0 ≤ a) (h2 : a ≤ b) (h3 : b ≤ l.length) : dSlice hp 1 (.sl (il l)) (some (.int .i64 a)) (some (.int .i64 b)) none = (True, .sl (il ((l.take b.toNat).drop a.toNat))) := by
  simp only [dSlice, dBound, il_len, Option.isSome_none, Prod.mk.injEq]
  refine ⟨eq_true ⟨il_rows l, trivial, trivial, trivial, by simp, h1, h2, Int.le_refl _, h3⟩, ?_⟩
  simp [il]
theorem slice_ilL {hp : List DObj} {l : List Int} {a : Int} (h1 : 0 ≤ a) (h3 : a ≤ l.length) : dSlice hp 1 (.sl (il l)) (some (.int .i64 a)) none none = (True, .sl (il (l.drop a.toNat))) := by
  simp only [dSlice, dBound, il_len, Option.isSome_none, Prod.mk.injEq]
  refine ⟨eq_true ⟨il_rows l, trivial, trivial, trivial, by simp, h1, h3, Int.le_refl _, Int.le_refl _⟩, ?_⟩
  rw [Int.toNat_natCast, List.take_of_length_le (by rw [il_len]; exact Nat.le_refl _)]
  simp [il]
theorem two_get {a b o : DObj} {g : List DObj} : (a :: b :: (g ++ [o]))[2 + g.length]? = some o := by
  rw [show 2 + g.length = g.length + 1 + 1 by omega, List.getElem?_cons_succ, List.getElem?_cons_succ, List.getElem?_append_right (Nat.le_refl _)]; simp
theorem two_set {a b o o' : DObj} {g : List DObj} : (a :: b :: (g ++ [o])).set (2 + g.length) o' = a :: b :: (g ++ [o']) := by
  rw [show 2 + g.length = g.length + 1 + 1 by omega, List.set_cons_succ, List.set_cons_succ, List.set_append_right _ _ (Nat.le_refl _)]; simp
noncomputable def s_mrun : List DV → Prop × DV := spec3 ePln eIl eI fun p o f => (okOne p o f, .agg (cTold (runF p o f)))
theorem s_mrun_at (p : Pln) (o : List Int) (f : Int) : s_mrun [.agg (cPln p), .sl (il o), .int .i64 f] = (okOne p o f, .agg (cTold (runF p o f))) := spec3_at inj_Pln inj_Il inj_I _ p o f
theorem ok_move_run : OkP Try.prog 19 s_mrun := by
  refine OkP.mk3 (ps := [(24, s_vm)]) (hs := [(23, s_ConcatH)]) ⟨ok_vm, trivial⟩ ⟨ok_slices_Concat_int64_int64, trivial⟩ m_move_run fun p old fuel h => ?_
  have ho := h.o; have h8 := h.l8; have h0 := h.l0
  have ev := s_vm_at p.code (old ++ zerosF p.len) fuel
  have hk := h.vm
  unfold fVm at ev
  rw [eq_true hk] at ev
  have fl : [old, List.replicate p.len.toNat 0].flatten = old ++ zerosF p.len := by simp [zerosF]
  have ec := fun hp => s_ConcatH_run [old, List.replicate p.len.toNat 0] hp
  simp only [fl, List.map_cons, List.map_nil] at ec
  have hl : (old ++ zerosF p.len).length ≤ 1000000000 := by simp [zerosF]; omega
  have tk : (il (old ++ zerosF p.len)).take (old ++ zerosF p.len).length = il (old ++ zerosF p.len) := List.take_of_length_le (by rw [il_len]; exact Nat.le_refl _)
  have tz : (il (List.replicate p.len.toNat 0)).take p.len.toNat = il (List.replicate p.len.toNat 0) := List.take_of_length_le (by rw [il_len, List.length_replicate]; exact Nat.le_refl _)
  have hr := (vm_facts hk).1
  have hll : (old ++ zerosF p.len).length = old.length + p.len.toNat := by simp [zerosF]
  generalize hcs : old ++ zerosF p.len = cs at *
  have eR : runF p old fuel = (let r := vmF p.code cs fuel; if r.2.2 = 0 then ⟨r.1.drop old.length, r.2.1, 0⟩ else ⟨[], r.2.1, r.2.2⟩) := by rw [← hcs]; rfl
  
  by_cases e : (vmF p.code cs fuel).2.2 = 0
  · have hr := hr e
    have e2 : runF p old fuel = ⟨(vmF p.code cs fuel).1.drop old.length, (vmF p.code cs fuel).2.1, 0⟩ := by rw [eR]; dsimp only; rw [if_pos e]
    rw [e2]
    generalize vmF p.code cs fuel = R at *
    have sl := fun hp => slice_ilL (hp := hp) (l := R.1) (a := (old.length : Int)) (by omega) (by omega)
    rw [Int.toNat_natCast] at sl
    (have hcondQ := Bool.and_self; refine Todo.of ?_); (repeat' (first | ((with_reducible refine Todo.to ?_); (repeat (first | (simp only [↓rP, rT, rU, eI, eU, eB, eS, eBs, eL, eA, buildCells, sepsD, sepB, hdl, dvalX, DOp.kind, dval, frameFrom, dBin, dInt, dStr, dBeq, dUn, dLoad, cellsAt, retV, retL, DR.val, fzT, fzVs, fzV, fz1, DV.immB, IntKind.bits, dCallP, viewVs, viewV, view1, capVL, capV, viewL, noMemV, noMem, elemsOf, dAppend, dAppz, dStore, DV.one, alive, freezeAt, fzLL, fzL, bRow, bU, cellsOf, setFrom, DV.isU, lenMax, lenCap, Nat.reduceEqDiff, Nat.reduceAdd, ↓reduceIte, reduceCtorEq, Nat.reduceSub, Int.reduceToNat, Int.reducePow, Nat.reducePow, Int.reduceLE, Int.reduceLT, Nat.reduceLeDiff, Nat.reduceLT, Int.reduceBEq, Int.reduceBNe, Int.reduceEq, Int.reduceNe, Int.reduceAdd, Int.reduceSub, Int.reduceMul, Int.reduceNeg, Int.reduceTDiv, Int.reduceTMod, Int.reduceMod, Int.reduceDiv, Nat.reduceMul, forall_const, implies_true, d_move_run, eIl, eIr, ePln, ePlns, il_len, il_rowsT, ec, ev, hl, tk, tz, e, sl, il_rep, two_get, two_set, List.cons_append, List.nil_append , hcondQ]) | (simp (disch := omega) only [i64_id, u64_id, u8_id, getD_map'])))) | ((with_reducible refine And.intro ?_ ?_); · first | trivial | omega | (simp; done) | (simp; omega)) | ((first | ((with_reducible refine dwp_condI (t := ?_) ?_ (fun hcQ => ?_) (fun hcQ => ?_)); rotate_left; · rfl) | ((with_reducible refine dops_guardI (t := ?_) ?_ (fun hcQ => ?_) (fun hcQ => ?_)); rotate_left; · rfl)) <;> (have hn := hcQ; have hcondQ := hcQ) <;> (try simp only [decide_eq_true_eq, decide_eq_false_iff_not, beq_iff_eq, bne_iff_ne, ne_eq, Bool.and_eq_true, Bool.or_eq_true, Bool.not_eq_true, Bool.not_eq_false, beq_eq_false_iff_ne, bne_eq_false_iff_eq, Bool.not_eq_true', Bool.not_eq_false', Int.ofNat_lt, Int.ofNat_le, Bool.or_eq_false_iff, Bool.and_eq_false_imp, Decidable.not_not, gt_iff_lt, ge_iff_le] at hn) <;> (try (exfalso; omega)) <;> (refine Todo.of ?_)) | (((with_reducible refine dwp_condA ?_ ?_ ?_); · rfl) <;> (refine Todo.of ?_)))) <;> (try (first | (with_reducible rfl) | exact Nat.le_refl _ | exact Int.le_refl _ | assumption | omega))
  · have e2 : runF p old fuel = ⟨[], (vmF p.code cs fuel).2.1, (vmF p.code cs fuel).2.2⟩ := by rw [eR]; dsimp only; rw [if_neg e]
    rw [e2]
    generalize vmF p.code cs fuel = R at *
    have e3 : (R.2.2 != 0) = true := by simp [e]
    (have hcondQ := Bool.and_self; refine Todo.of ?_); (repeat' (first | ((with_reducible refine Todo.to ?_); (repeat (first | (simp only [↓rP, rT, rU, eI, eU, eB, eS, eBs, eL, eA, buildCells, sepsD, sepB, hdl, dvalX, DOp.kind, dval, frameFrom, dBin, dInt, dStr, dBeq, dUn, dLoad, cellsAt, retV, retL, DR.val, fzT, fzVs, fzV, fz1, DV.immB, IntKind.bits, dCallP, viewVs, viewV, view1, capVL, capV, viewL, noMemV, noMem, elemsOf, dAppend, dAppz, dStore, DV.one, alive, freezeAt, fzLL, fzL, bRow, bU, cellsOf, setFrom, DV.isU, lenMax, lenCap, Nat.reduceEqDiff, Nat.reduceAdd, ↓reduceIte, reduceCtorEq, Nat.reduceSub, Int.reduceToNat, Int.reducePow, Nat.reducePow, Int.reduceLE, Int.reduceLT, Nat.reduceLeDiff, Nat.reduceLT, Int.reduceBEq, Int.reduceBNe, Int.reduceEq, Int.reduceNe, Int.reduceAdd, Int.reduceSub, Int.reduceMul, Int.reduceNeg, Int.reduceTDiv, Int.reduceTMod, Int.reduceMod, Int.reduceDiv, Nat.reduceMul, forall_const, implies_true, d_move_run, eIl, eIr, ePln, ePlns, il_len, il_rowsT, ec, ev, hl, tk, tz, e3, il_rep, two_get, two_set, List.cons_append, List.nil_append , hcondQ]) | (simp (disch := omega) only [i64_id, u64_id, u8_id, getD_map'])))) | ((with_reducible refine And.intro ?_ ?_); · first | trivial | omega | (simp; done) | (simp; omega)) | ((first | ((with_reducible refine dwp_condI (t := ?_) ?_ (fun hcQ => ?_) (fun hcQ => ?_)); rotate_left; · rfl) | ((with_reducible refine dops_guardI (t := ?_) ?_ (fun hcQ => ?_) (fun hcQ => ?_)); rotate_left; · rfl)) <;> (have hn := hcQ; have hcondQ := hcQ) <;> (try simp only [decide_eq_true_eq, decide_eq_false_iff_not, beq_iff_eq, bne_iff_ne, ne_eq, Bool.and_eq_true, Bool.or_eq_true, Bool.not_eq_true, Bool.not_eq_false, beq_eq_false_iff_ne, bne_eq_false_iff_eq, Bool.not_eq_true', Bool.not_eq_false', Int.ofNat_lt, Int.ofNat_le, Bool.or_eq_false_iff, Bool.and_eq_false_imp, Decidable.not_not, gt_iff_lt, ge_iff_le] at hn) <;> (try (exfalso; omega)) <;> (refine Todo.of ?_)) | (((with_reducible refine dwp_condA ?_ ?_ ?_); · rfl) <;> (refine Todo.of ?_)))) <;> (try (first | (with_reducible rfl) | exact Nat.le_refl _ | exact Int.le_refl _ | assumption | omega))
    all_goals rfl
end Go.Proofs.Ytjgefhgkinocmaa
