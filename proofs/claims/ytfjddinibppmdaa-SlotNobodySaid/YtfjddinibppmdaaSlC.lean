/- A store's small methods. -/
import Derived.Test.YtfjddinibppmdaaSlB
set_option linter.all false
set_option maxRecDepth 20000
namespace Go.Proofs.Ytfjddinibppmdaa
open Go.Nk

@[reducible] def cVn (v : Vn) : List DV := [.bool v.there, .sl (v.x.en.map cEn), .sl (v.x.ins.map cPrt), .sl (v.x.outs.map cPrt), .sl (v.x.slots.map cSlt), .sl (ils v.x.loc), .sl (v.x.code.map cIn4), .sl (ils v.st)]
theorem cVn_inj : ∀ x y, cVn x = cVn y → x = y := fun x y h => by
  obtain ⟨t, x, s⟩ := x; obtain ⟨t', x', s'⟩ := y
  simp only [cVn, List.cons.injEq, DV.bool.injEq, DV.sl.injEq, and_true] at h
  obtain ⟨rfl, a1, a2, a3, a4, a5, a6, a7⟩ := h
  rw [img_eq a1 a2 a3 a4 a5 a6, ils_inj a7]
abbrev eVn : Vn → DV := eA cVn
theorem inj_Vn : Inj eVn := inj_A cVn_inj
def okV (v : Vn) : Prop := v.x.slots.length ≤ 150 ∧ v.st.length ≤ 1200
def missF (v : Vn) : Int := sumC v.x.slots - v.st.length
theorem sumC_bd (l : List Slt) (h : l.length ≤ 150) : 0 ≤ sumC l ∧ sumC l ≤ 1200 := by
  have := sumC_b l l.length (Nat.le_refl _)
  rw [List.take_length] at this
  omega
noncomputable def s_miss : List DV → Prop × DV := spec1 eVn fun v => (okV v, .int .i64 (missF v))
theorem s_miss_at (v : Vn) : s_miss [.agg (cVn v)] = (okV v, .int .i64 (missF v)) := spec1_at inj_Vn _ v
theorem ok_slot_version_missing : OkP Try.prog 26 s_miss := by
  refine OkP.mk1 (ps := [(41, s_SumC)]) (hs := []) ⟨ok_SumC, trivial⟩ trivial m_slot_version_missing fun v h => ?_
  try dsimp only at h
  obtain ⟨h1, h2⟩ := h
  have e := s_SumC_at v.x.slots
  rw [eq_true (show v.x.slots.length ≤ 1000000000 by omega)] at e
  have b := sumC_bd v.x.slots h1
  have w : IntKind.i64.wrap (sumC v.x.slots - v.st.length) = missF v := by rw [wrap_i64_id (by omega)]; rfl
  (have hcondQ := Bool.and_self; refine Todo.of ?_); (repeat' (first | ((with_reducible refine Todo.to ?_); (repeat (first | (simp only [↓rP, rT, rU, eI, eU, eB, eS, eBs, eL, eA, buildCells, sepsD, sepB, hdl, dvalX, DOp.kind, dval, frameFrom, dBin, dInt, dStr, dBeq, dUn, dLoad, cellsAt, retV, retL, DR.val, fzT, fzVs, fzV, fz1, DV.immB, IntKind.bits, dCallP, viewVs, viewV, view1, capVL, capV, viewL, noMemV, noMem, elemsOf, dAppend, dAppz, dStore, DV.one, alive, freezeAt, fzLL, fzL, bRow, bU, cellsOf, setFrom, DV.isU, lenMax, lenCap, Nat.reduceEqDiff, Nat.reduceAdd, ↓reduceIte, reduceCtorEq, Nat.reduceSub, Int.reduceToNat, Int.reducePow, Nat.reducePow, Int.reduceLE, Int.reduceLT, Nat.reduceLeDiff, Nat.reduceLT, Int.reduceBEq, Int.reduceBNe, Int.reduceEq, Int.reduceNe, Int.reduceAdd, Int.reduceSub, Int.reduceMul, Int.reduceNeg, Int.reduceTDiv, Int.reduceTMod, Int.reduceMod, Int.reduceDiv, Nat.reduceMul, forall_const, implies_true, d_slot_version_missing, s_SumC_at, eEns, eIls, eImg, ePrt, ePrts, eRows, eSs, eTy, eVn, eY, sls_len, ils_len, ils_rowsT, sls_rowsT, sls_tk0, ils_tk0, e, w, ils_len , hcondQ]) | (simp (disch := omega) only [i64_id, u64_id, u8_id, getD_map'])))) | ((with_reducible refine And.intro ?_ ?_); · first | trivial | omega | (simp; done) | (simp; omega)) | ((first | ((with_reducible refine dwp_condI (t := ?_) ?_ (fun hcQ => ?_) (fun hcQ => ?_)); rotate_left; · rfl) | ((with_reducible refine dops_guardI (t := ?_) ?_ (fun hcQ => ?_) (fun hcQ => ?_)); rotate_left; · rfl)) <;> (have hn := hcQ; have hcondQ := hcQ) <;> (try simp only [decide_eq_true_eq, decide_eq_false_iff_not, beq_iff_eq, bne_iff_ne, ne_eq, Bool.and_eq_true, Bool.or_eq_true, Bool.not_eq_true, Bool.not_eq_false, beq_eq_false_iff_ne, bne_eq_false_iff_eq, Bool.not_eq_true', Bool.not_eq_false', Int.ofNat_lt, Int.ofNat_le, Bool.or_eq_false_iff, Bool.and_eq_false_imp, Decidable.not_not, gt_iff_lt, ge_iff_le] at hn) <;> (try (exfalso; omega)) <;> (refine Todo.of ?_)) | (((with_reducible refine dwp_condA ?_ ?_ ?_); · rfl) <;> (refine Todo.of ?_)))) <;> (try (first | (with_reducible rfl) | exact Nat.le_refl _ | exact Int.le_refl _ | assumption | omega))

/-- A copy, of its own. -/
def okCl (d : DV) (l : List Int) (hp : List DObj) : Prop := (d = .nil ∧ l = []) ∨ d = .sl (ils l) ∨ ∃ h, d = .own h l.length 0 l.length ∧ hp[h]? = some (oSt l)
def rCl (x : DV × List Int) (a : List DV) (hp : List DObj) : Prop := a = [x.1] ∧ okCl x.1 x.2 hp
theorem okCl_u {d : DV} {l l' : List Int} {hp : List DObj} (h : okCl d l hp) (h' : okCl d l' hp) : l = l' := by
  rcases h with ⟨h1, h2⟩ | h1 | ⟨k, h1, hk⟩ <;> rcases h' with ⟨e, h3⟩ | e | ⟨k', e, hk'⟩ <;> subst h1
  · rw [h2, h3]
  · cases e
  · cases e
  · cases e
  · exact ils_inj (by simpa using e)
  · cases e
  · cases e
  · cases e
  · simp only [DV.own.injEq, true_and] at e
    obtain ⟨rfl, _⟩ := e
    exact oSt_inj (Option.some.inj (hk.symm.trans hk'))
noncomputable def s_CloneO : List DV → List DObj → Res := fun a hp => ⟨∃ x, rCl x a hp ∧ x.2.length ≤ 1200, .own hp.length (elemsOf hp (a.getD 0 .nil)).es.length 0 (elemsOf hp (a.getD 0 .nil)).es.length, hp ++ [⟨.imm, 1, (elemsOf hp (a.getD 0 .nil)).es⟩]⟩
theorem okCl_el {d : DV} {l : List Int} {hp : List DObj} (h : okCl d l hp) : elemsOf hp d = ⟨True, ils l⟩ := by
  rcases h with ⟨rfl, rfl⟩ | rfl | ⟨k, rfl, hk⟩
  · rfl
  · rfl
  · have tk : (ils l).take l.length = ils l := List.take_of_length_le (by rw [ils_len]; exact Nat.le_refl _)
    simp [elemsOf, hk, oSt, ils_len, tk]
theorem s_CloneO_at {d : DV} {l : List Int} {hp : List DObj} (h : okCl d l hp) (hl : l.length ≤ 1200) : s_CloneO [d] hp = ⟨True, .own hp.length l.length 0 l.length, hp ++ [oSt l]⟩ := by
  unfold s_CloneO
  simp only [List.getD_cons_zero, okCl_el h, ils_len, oSt, Res.mk.injEq, and_true]
  exact eq_true ⟨(d, l), ⟨rfl, h⟩, hl⟩
theorem end_get {hp : List DObj} {a : DObj} : (hp ++ [a])[hp.length]? = some a := by simp
theorem end_set {hp : List DObj} {a b : DObj} : (hp ++ [a]).set hp.length b = hp ++ [b] := by
  rw [List.set_append_right _ _ (Nat.le_refl _)]; simp
theorem ok_CloneO : OkH Try.prog 28 s_CloneO := by
  refine OkH.mk (ps := []) (hs := []) (n := 1) trivial trivial m_slices_Clone_int64_int64 fun a hp h => ?_
  obtain ⟨⟨d, l⟩, ⟨rfl, h⟩, hl⟩ := h
  refine ⟨rfl, ?_⟩
  simp only at h hl
  rw [s_CloneO_at h hl]
  have r := ils_rows l
  have hb : l.length ≤ 4294967296 := by omega
  have hx : okCl d l (hp ++ [⟨.imm, 1, []⟩]) := by
    rcases h with h | h | ⟨k, h, hk⟩
    · exact .inl h
    · exact .inr (.inl h)
    · exact .inr (.inr ⟨k, h, get_app hk⟩)
  have ee := okCl_el hx
  
  rcases h with ⟨rfl, rfl⟩ | rfl | ⟨k, rfl, hk⟩
  · (have hcondQ := Bool.and_self; refine Todo.of ?_); (repeat' (first | ((with_reducible refine Todo.to ?_); (repeat (first | (simp only [↓rP, rT, rU, eI, eU, eB, eS, eBs, eL, eA, buildCells, sepsD, sepB, hdl, dvalX, DOp.kind, dval, frameFrom, dBin, dInt, dStr, dBeq, dUn, dLoad, cellsAt, retV, retL, DR.val, fzT, fzVs, fzV, fz1, DV.immB, IntKind.bits, dCallP, viewVs, viewV, view1, capVL, capV, viewL, noMemV, noMem, elemsOf, dAppend, dAppz, dStore, DV.one, alive, freezeAt, fzLL, fzL, bRow, bU, cellsOf, setFrom, DV.isU, lenMax, lenCap, Nat.reduceEqDiff, Nat.reduceAdd, ↓reduceIte, reduceCtorEq, Nat.reduceSub, Int.reduceToNat, Int.reducePow, Nat.reducePow, Int.reduceLE, Int.reduceLT, Nat.reduceLeDiff, Nat.reduceLT, Int.reduceBEq, Int.reduceBNe, Int.reduceEq, Int.reduceNe, Int.reduceAdd, Int.reduceSub, Int.reduceMul, Int.reduceNeg, Int.reduceTDiv, Int.reduceTMod, Int.reduceMod, Int.reduceDiv, Nat.reduceMul, forall_const, implies_true, d_slices_Clone_int64_int64, eEns, eIls, eImg, ePrt, ePrts, eRows, eSs, eTy, eVn, eY, sls_len, ils_len, ils_rowsT, sls_rowsT, sls_tk0, ils_tk0, end_get, end_set, endH_normal, endH_ret , hcondQ]) | (simp (disch := omega) only [i64_id, u64_id, u8_id, getD_map'])))) | ((with_reducible refine And.intro ?_ ?_); · first | trivial | omega | (simp; done) | (simp; omega)) | ((first | ((with_reducible refine dwp_condI (t := ?_) ?_ (fun hcQ => ?_) (fun hcQ => ?_)); rotate_left; · rfl) | ((with_reducible refine dops_guardI (t := ?_) ?_ (fun hcQ => ?_) (fun hcQ => ?_)); rotate_left; · rfl)) <;> (have hn := hcQ; have hcondQ := hcQ) <;> (try simp only [decide_eq_true_eq, decide_eq_false_iff_not, beq_iff_eq, bne_iff_ne, ne_eq, Bool.and_eq_true, Bool.or_eq_true, Bool.not_eq_true, Bool.not_eq_false, beq_eq_false_iff_ne, bne_eq_false_iff_eq, Bool.not_eq_true', Bool.not_eq_false', Int.ofNat_lt, Int.ofNat_le, Bool.or_eq_false_iff, Bool.and_eq_false_imp, Decidable.not_not, gt_iff_lt, ge_iff_le] at hn) <;> (try (exfalso; omega)) <;> (refine Todo.of ?_)) | (((with_reducible refine dwp_condA ?_ ?_ ?_); · rfl) <;> (refine Todo.of ?_)))) <;> (try (first | (with_reducible rfl) | exact Nat.le_refl _ | exact Int.le_refl _ | assumption | omega))
    rfl
  · cases l with
    | nil =>
      simp only [ils, List.map_nil] at ee ⊢
      (have hcondQ := Bool.and_self; refine Todo.of ?_); (repeat' (first | ((with_reducible refine Todo.to ?_); (repeat (first | (simp only [↓rP, rT, rU, eI, eU, eB, eS, eBs, eL, eA, buildCells, sepsD, sepB, hdl, dvalX, DOp.kind, dval, frameFrom, dBin, dInt, dStr, dBeq, dUn, dLoad, cellsAt, retV, retL, DR.val, fzT, fzVs, fzV, fz1, DV.immB, IntKind.bits, dCallP, viewVs, viewV, view1, capVL, capV, viewL, noMemV, noMem, elemsOf, dAppend, dAppz, dStore, DV.one, alive, freezeAt, fzLL, fzL, bRow, bU, cellsOf, setFrom, DV.isU, lenMax, lenCap, Nat.reduceEqDiff, Nat.reduceAdd, ↓reduceIte, reduceCtorEq, Nat.reduceSub, Int.reduceToNat, Int.reducePow, Nat.reducePow, Int.reduceLE, Int.reduceLT, Nat.reduceLeDiff, Nat.reduceLT, Int.reduceBEq, Int.reduceBNe, Int.reduceEq, Int.reduceNe, Int.reduceAdd, Int.reduceSub, Int.reduceMul, Int.reduceNeg, Int.reduceTDiv, Int.reduceTMod, Int.reduceMod, Int.reduceDiv, Nat.reduceMul, forall_const, implies_true, d_slices_Clone_int64_int64, eEns, eIls, eImg, ePrt, ePrts, eRows, eSs, eTy, eVn, eY, sls_len, ils_len, ils_rowsT, sls_rowsT, sls_tk0, ils_tk0, ee, end_get, end_set, endH_normal, endH_ret, lenMax , hcondQ]) | (simp (disch := omega) only [i64_id, u64_id, u8_id, getD_map'])))) | ((with_reducible refine And.intro ?_ ?_); · first | trivial | omega | (simp; done) | (simp; omega)) | ((first | ((with_reducible refine dwp_condI (t := ?_) ?_ (fun hcQ => ?_) (fun hcQ => ?_)); rotate_left; · rfl) | ((with_reducible refine dops_guardI (t := ?_) ?_ (fun hcQ => ?_) (fun hcQ => ?_)); rotate_left; · rfl)) <;> (have hn := hcQ; have hcondQ := hcQ) <;> (try simp only [decide_eq_true_eq, decide_eq_false_iff_not, beq_iff_eq, bne_iff_ne, ne_eq, Bool.and_eq_true, Bool.or_eq_true, Bool.not_eq_true, Bool.not_eq_false, beq_eq_false_iff_ne, bne_eq_false_iff_eq, Bool.not_eq_true', Bool.not_eq_false', Int.ofNat_lt, Int.ofNat_le, Bool.or_eq_false_iff, Bool.and_eq_false_imp, Decidable.not_not, gt_iff_lt, ge_iff_le] at hn) <;> (try (exfalso; omega)) <;> (refine Todo.of ?_)) | (((with_reducible refine dwp_condA ?_ ?_ ?_); · rfl) <;> (refine Todo.of ?_)))) <;> (try (first | (with_reducible rfl) | exact Nat.le_refl _ | exact Int.le_refl _ | assumption | omega))
      all_goals first | rfl | exact ⟨rfl, rfl⟩ | skip
    | cons y t =>
      have e2 : ils (y :: t) = [.int .i64 y] :: ils t := rfl
      rw [e2] at ee r ⊢
      (have hcondQ := Bool.and_self; refine Todo.of ?_); (repeat' (first | ((with_reducible refine Todo.to ?_); (repeat (first | (simp only [↓rP, rT, rU, eI, eU, eB, eS, eBs, eL, eA, buildCells, sepsD, sepB, hdl, dvalX, DOp.kind, dval, frameFrom, dBin, dInt, dStr, dBeq, dUn, dLoad, cellsAt, retV, retL, DR.val, fzT, fzVs, fzV, fz1, DV.immB, IntKind.bits, dCallP, viewVs, viewV, view1, capVL, capV, viewL, noMemV, noMem, elemsOf, dAppend, dAppz, dStore, DV.one, alive, freezeAt, fzLL, fzL, bRow, bU, cellsOf, setFrom, DV.isU, lenMax, lenCap, Nat.reduceEqDiff, Nat.reduceAdd, ↓reduceIte, reduceCtorEq, Nat.reduceSub, Int.reduceToNat, Int.reducePow, Nat.reducePow, Int.reduceLE, Int.reduceLT, Nat.reduceLeDiff, Nat.reduceLT, Int.reduceBEq, Int.reduceBNe, Int.reduceEq, Int.reduceNe, Int.reduceAdd, Int.reduceSub, Int.reduceMul, Int.reduceNeg, Int.reduceTDiv, Int.reduceTMod, Int.reduceMod, Int.reduceDiv, Nat.reduceMul, forall_const, implies_true, d_slices_Clone_int64_int64, eEns, eIls, eImg, ePrt, ePrts, eRows, eSs, eTy, eVn, eY, sls_len, ils_len, ils_rowsT, sls_rowsT, sls_tk0, ils_tk0, ee, r, end_get, end_set, endH_normal, endH_ret, lenMax, ils_len , hcondQ]) | (simp (disch := omega) only [i64_id, u64_id, u8_id, getD_map'])))) | ((with_reducible refine And.intro ?_ ?_); · first | trivial | omega | (simp; done) | (simp; omega)) | ((first | ((with_reducible refine dwp_condI (t := ?_) ?_ (fun hcQ => ?_) (fun hcQ => ?_)); rotate_left; · rfl) | ((with_reducible refine dops_guardI (t := ?_) ?_ (fun hcQ => ?_) (fun hcQ => ?_)); rotate_left; · rfl)) <;> (have hn := hcQ; have hcondQ := hcQ) <;> (try simp only [decide_eq_true_eq, decide_eq_false_iff_not, beq_iff_eq, bne_iff_ne, ne_eq, Bool.and_eq_true, Bool.or_eq_true, Bool.not_eq_true, Bool.not_eq_false, beq_eq_false_iff_ne, bne_eq_false_iff_eq, Bool.not_eq_true', Bool.not_eq_false', Int.ofNat_lt, Int.ofNat_le, Bool.or_eq_false_iff, Bool.and_eq_false_imp, Decidable.not_not, gt_iff_lt, ge_iff_le] at hn) <;> (try (exfalso; omega)) <;> (refine Todo.of ?_)) | (((with_reducible refine dwp_condA ?_ ?_ ?_); · rfl) <;> (refine Todo.of ?_)))) <;> (try (first | (with_reducible rfl) | exact Nat.le_refl _ | exact Int.le_refl _ | assumption | omega))
      exact ⟨by simp at hl; omega, rfl⟩
  · have hk2 : (hp ++ [⟨.imm, 1, []⟩])[k]? = some ⟨.imm, 1, ils l⟩ := get_app hk
    have tk : (ils l).take l.length = ils l := List.take_of_length_le (by rw [ils_len]; exact Nat.le_refl _)
    by_cases c : 0 < l.length
    · (have hcondQ := Bool.and_self; refine Todo.of ?_); (repeat' (first | ((with_reducible refine Todo.to ?_); (repeat (first | (simp only [↓rP, rT, rU, eI, eU, eB, eS, eBs, eL, eA, buildCells, sepsD, sepB, hdl, dvalX, DOp.kind, dval, frameFrom, dBin, dInt, dStr, dBeq, dUn, dLoad, cellsAt, retV, retL, DR.val, fzT, fzVs, fzV, fz1, DV.immB, IntKind.bits, dCallP, viewVs, viewV, view1, capVL, capV, viewL, noMemV, noMem, elemsOf, dAppend, dAppz, dStore, DV.one, alive, freezeAt, fzLL, fzL, bRow, bU, cellsOf, setFrom, DV.isU, lenMax, lenCap, Nat.reduceEqDiff, Nat.reduceAdd, ↓reduceIte, reduceCtorEq, Nat.reduceSub, Int.reduceToNat, Int.reducePow, Nat.reducePow, Int.reduceLE, Int.reduceLT, Nat.reduceLeDiff, Nat.reduceLT, Int.reduceBEq, Int.reduceBNe, Int.reduceEq, Int.reduceNe, Int.reduceAdd, Int.reduceSub, Int.reduceMul, Int.reduceNeg, Int.reduceTDiv, Int.reduceTMod, Int.reduceMod, Int.reduceDiv, Nat.reduceMul, forall_const, implies_true, d_slices_Clone_int64_int64, eEns, eIls, eImg, ePrt, ePrts, eRows, eSs, eTy, eVn, eY, sls_len, ils_len, ils_rowsT, sls_rowsT, sls_tk0, ils_tk0, hk2, tk, hk, oSt, c, r, end_get, end_set, endH_normal, endH_ret, lenMax, ils_len , hcondQ]) | (simp (disch := omega) only [i64_id, u64_id, u8_id, getD_map'])))) | ((with_reducible refine And.intro ?_ ?_); · first | trivial | omega | (simp; done) | (simp; omega)) | ((first | ((with_reducible refine dwp_condI (t := ?_) ?_ (fun hcQ => ?_) (fun hcQ => ?_)); rotate_left; · rfl) | ((with_reducible refine dops_guardI (t := ?_) ?_ (fun hcQ => ?_) (fun hcQ => ?_)); rotate_left; · rfl)) <;> (have hn := hcQ; have hcondQ := hcQ) <;> (try simp only [decide_eq_true_eq, decide_eq_false_iff_not, beq_iff_eq, bne_iff_ne, ne_eq, Bool.and_eq_true, Bool.or_eq_true, Bool.not_eq_true, Bool.not_eq_false, beq_eq_false_iff_ne, bne_eq_false_iff_eq, Bool.not_eq_true', Bool.not_eq_false', Int.ofNat_lt, Int.ofNat_le, Bool.or_eq_false_iff, Bool.and_eq_false_imp, Decidable.not_not, gt_iff_lt, ge_iff_le] at hn) <;> (try (exfalso; omega)) <;> (refine Todo.of ?_)) | (((with_reducible refine dwp_condA ?_ ?_ ?_); · rfl) <;> (refine Todo.of ?_)))) <;> (try (first | (with_reducible rfl) | exact Nat.le_refl _ | exact Int.le_refl _ | assumption | omega))
      all_goals first | rfl | omega | skip
    · obtain rfl : l = [] := List.length_eq_zero_iff.1 (by omega)
      have e0 : ils [] = [] := rfl
      rw [e0] at hk2
      (have hcondQ := Bool.and_self; refine Todo.of ?_); (repeat' (first | ((with_reducible refine Todo.to ?_); (repeat (first | (simp only [↓rP, rT, rU, eI, eU, eB, eS, eBs, eL, eA, buildCells, sepsD, sepB, hdl, dvalX, DOp.kind, dval, frameFrom, dBin, dInt, dStr, dBeq, dUn, dLoad, cellsAt, retV, retL, DR.val, fzT, fzVs, fzV, fz1, DV.immB, IntKind.bits, dCallP, viewVs, viewV, view1, capVL, capV, viewL, noMemV, noMem, elemsOf, dAppend, dAppz, dStore, DV.one, alive, freezeAt, fzLL, fzL, bRow, bU, cellsOf, setFrom, DV.isU, lenMax, lenCap, Nat.reduceEqDiff, Nat.reduceAdd, ↓reduceIte, reduceCtorEq, Nat.reduceSub, Int.reduceToNat, Int.reducePow, Nat.reducePow, Int.reduceLE, Int.reduceLT, Nat.reduceLeDiff, Nat.reduceLT, Int.reduceBEq, Int.reduceBNe, Int.reduceEq, Int.reduceNe, Int.reduceAdd, Int.reduceSub, Int.reduceMul, Int.reduceNeg, Int.reduceTDiv, Int.reduceTMod, Int.reduceMod, Int.reduceDiv, Nat.reduceMul, forall_const, implies_true, d_slices_Clone_int64_int64, eEns, eIls, eImg, ePrt, ePrts, eRows, eSs, eTy, eVn, eY, sls_len, ils_len, ils_rowsT, sls_rowsT, sls_tk0, ils_tk0, hk2, hk, oSt, e0, end_get, end_set, endH_normal, endH_ret, lenMax, ils_len, List.length_nil , hcondQ]) | (simp (disch := omega) only [i64_id, u64_id, u8_id, getD_map'])))) | ((with_reducible refine And.intro ?_ ?_); · first | trivial | omega | (simp; done) | (simp; omega)) | ((first | ((with_reducible refine dwp_condI (t := ?_) ?_ (fun hcQ => ?_) (fun hcQ => ?_)); rotate_left; · rfl) | ((with_reducible refine dops_guardI (t := ?_) ?_ (fun hcQ => ?_) (fun hcQ => ?_)); rotate_left; · rfl)) <;> (have hn := hcQ; have hcondQ := hcQ) <;> (try simp only [decide_eq_true_eq, decide_eq_false_iff_not, beq_iff_eq, bne_iff_ne, ne_eq, Bool.and_eq_true, Bool.or_eq_true, Bool.not_eq_true, Bool.not_eq_false, beq_eq_false_iff_ne, bne_eq_false_iff_eq, Bool.not_eq_true', Bool.not_eq_false', Int.ofNat_lt, Int.ofNat_le, Bool.or_eq_false_iff, Bool.and_eq_false_imp, Decidable.not_not, gt_iff_lt, ge_iff_le] at hn) <;> (try (exfalso; omega)) <;> (refine Todo.of ?_)) | (((with_reducible refine dwp_condA ?_ ?_ ?_); · rfl) <;> (refine Todo.of ?_)))) <;> (try (first | (with_reducible rfl) | exact Nat.le_refl _ | exact Int.le_refl _ | assumption | omega))
      all_goals first | rfl | omega | skip
end Go.Proofs.Ytfjddinibppmdaa
