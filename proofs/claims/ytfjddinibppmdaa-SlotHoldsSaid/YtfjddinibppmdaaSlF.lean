/- A store's Load, Keep, Stage. -/
import Derived.Test.YtfjddinibppmdaaSlE
set_option linter.all false
set_option maxRecDepth 20000
namespace Go.Proofs.Ytfjddinibppmdaa
open Go.Nk

def jk (x : Img) (l : List Int) (L : Nat) : List DObj := [oJA x l (L + 1), oSt l, oJA x l (L + 1)]
def loadQ (q : Qs) (x : Img) (l : List Int) (h : Nat) : Qs := if q.b then { q with v0 := vnZ, h0 := 0, v1 := ⟨true, x, l⟩, h1 := h } else { q with v0 := ⟨true, x, l⟩, h0 := h, v1 := vnZ, h1 := 0 }
def keepQ (q : Qs) (l : List Int) (h : Nat) : Qs := if q.b then { q with v1 := ⟨true, q.v1.x, l⟩, h1 := h } else { q with v0 := ⟨true, q.v0.x, l⟩, h0 := h }
def stageQ (q : Qs) (x : Img) (h : Nat) : Qs := if q.b then { q with v0 := ⟨true, x, []⟩, h0 := h } else { q with v1 := ⟨true, x, []⟩, h1 := h }
theorem kept_new {hp : List DObj} {n : Nat} {x : Img} {l : List Int} {h : Nat} (e : hp[h]? = some (oSt l)) (hn : h ≠ n) : Kept hp n ⟨true, x, l⟩ h := ⟨fun _ => ⟨e, hn⟩, fun t => by cases t⟩
def rLo (y : Sp × Img × List Int) (a : List DV) (hp : List DObj) : Prop := a = [aS y.1, .agg (cImg y.2.1), .sl (ils y.2.2)] ∧ RS y.1 hp
theorem rLo_u : ∀ x y a hp, rLo x a hp → rLo y a hp → x = y := by
  rintro ⟨s, x, l⟩ ⟨s', x', l'⟩ a hp ⟨rfl, h⟩ ⟨e, h'⟩
  simp only [List.cons.injEq, DV.agg.injEq, DV.sl.injEq, and_true] at e
  obtain ⟨e0, ⟨a1, a2, a3, a4, a5, a6⟩, e⟩ := e
  have e9 : s = s' := RS_u h h' e0
  rw [e9, img_eq a1 a2 a3 a4 a5 a6, ils_inj e]
def okXL (x : Img) (l : List Int) : Prop := x.slots.length ≤ 150 ∧ l.length ≤ 1200
def misB (x : Img) (l : List Int) : Bool := missF ⟨true, x, l⟩ == 0
def outLo (y : Sp × Img × List Int) (hp : List DObj) : List DObj := match y.1 with
  | none => hp ++ jk y.2.1 y.2.2 hp.length
  | some (n, m, q) => if m && misB y.2.1 y.2.2 then one (hp ++ jk y.2.1 y.2.2 hp.length) n (oQ true (loadQ q y.2.1 y.2.2 (hp.length + 1))) else hp ++ jk y.2.1 y.2.2 hp.length
noncomputable def s_Load : List DV → List DObj → Res := specG rLo (fun y => (okXL y.2.1 y.2.2, .bool (isS y.1 && misB y.2.1 y.2.2))) outLo
theorem s_Load_at {hp : List DObj} {n : Nat} {q : Qs} {x : Img} {l : List Int} (h : Rep hp n true q) : s_Load [.ptr n 1 0 0, .agg (cImg x), .sl (ils l)] hp = ⟨okXL x l, .bool (misB x l), if misB x l then one (hp ++ jk x l hp.length) n (oQ true (loadQ q x l (hp.length + 1))) else hp ++ jk x l hp.length⟩ := by
  have := specG_at (f := fun y => (okXL y.2.1 y.2.2, DV.bool (isS y.1 && misB y.2.1 y.2.2))) (out := outLo) rLo_u (x := (some (n, true, q), x, l)) (a := [.ptr n 1 0 0, .agg (cImg x), .sl (ils l)]) (hp := hp) ⟨rfl, h⟩
  unfold s_Load
  rw [this]
  simp only [isS, outLo, Bool.true_and]
theorem misA {x : Img} {l : List Int} (h : okXL x l) : s_miss [.agg [.bool true, .sl (x.en.map cEn), .sl (x.ins.map cPrt), .sl (x.outs.map cPrt), .sl (x.slots.map cSlt), .sl (ils x.loc), .sl (x.code.map cIn4), .sl (ils l)]] = (True, .int .i64 (missF ⟨true, x, l⟩)) := miss_at (v := ⟨true, x, l⟩) h rfl
theorem drop_of {q1 : Qs} {hp : List DObj} {n : Nat} {o : DObj} (e : o = oQ true q1) (r : Rep (hp.set n o) n true q1) : s_Drop [.ptr n 1 0 0] (hp.set n o) = ⟨True, .tup [], hp.set n (oQ true (dropQ q1))⟩ := by
  rw [s_Drop_at r]
  simp [one]
set_option maxHeartbeats 1000000 in
theorem ok_Load : OkH Try.prog 9 s_Load := by
  refine OkH.mkGH (ps := [(26, s_miss)]) (hs := [(24, s_ofV), (25, s_is), (27, s_held), (15, s_Drop)])
    ⟨ok_slot_version_missing, trivial⟩ ⟨ok_slot_of, ok_slot_is, ok_held, ok_Drop, trivial⟩ m_slot_Store_Load (fun x a hp h => by rw [h.1]; rfl) (fun y a hp h hv => ?_)
  obtain ⟨s, x, l⟩ := y
  obtain ⟨rfl, hh⟩ := h
  have hv : okXL x l := hv
  have eo := s_ofV_at (x := x) (hp := hp) (.inr (.inl rfl) : okCl (.sl (ils l)) l hp) hv.2
  have em := misA hv
  have tk := ils_tkl l
  simp only [oJA, cJA, oSt] at eo
  
  rcases s with _ | ⟨n, m, q⟩
  · have e1 := fun t => s_is_nil (hp := hp ++ t)
    simp only [aS, isS, outLo, jk, oJA, cJA, oSt, Bool.false_and]
    (have hcondQ := Bool.and_self; refine Todo.of ?_); (repeat' (first | ((with_reducible refine Todo.to ?_); (repeat (first | (simp only [↓rP, rT, rU, eI, eU, eB, eS, eBs, eL, eA, buildCells, sepsD, sepB, hdl, dvalX, DOp.kind, dval, frameFrom, dBin, dInt, dStr, dBeq, dUn, dLoad, cellsAt, retV, retL, DR.val, fzT, fzVs, fzV, fz1, DV.immB, IntKind.bits, dCallP, viewVs, viewV, view1, capVL, capV, viewL, noMemV, noMem, elemsOf, dAppend, dAppz, dStore, DV.one, alive, freezeAt, fzLL, fzL, bRow, bU, cellsOf, setFrom, DV.isU, lenMax, lenCap, Nat.reduceEqDiff, Nat.reduceAdd, ↓reduceIte, reduceCtorEq, Nat.reduceSub, Int.reduceToNat, Int.reducePow, Nat.reducePow, Int.reduceLE, Int.reduceLT, Nat.reduceLeDiff, Nat.reduceLT, Int.reduceBEq, Int.reduceBNe, Int.reduceEq, Int.reduceNe, Int.reduceAdd, Int.reduceSub, Int.reduceMul, Int.reduceNeg, Int.reduceTDiv, Int.reduceTMod, Int.reduceMod, Int.reduceDiv, Nat.reduceMul, forall_const, implies_true, d_slot_Store_Load, eEns, eIls, eImg, ePrt, ePrts, eRows, eSs, eTy, eVn, eY, sls_len, ils_len, ils_rowsT, sls_rowsT, sls_tk0, ils_tk0, eo, e1, get3b, get3c, set3c, List.append_assoc, endH_normal, endH_ret , hcondQ]) | (simp (disch := omega) only [i64_id, u64_id, u8_id, getD_map'])))) | ((with_reducible refine And.intro ?_ ?_); · first | trivial | omega | (simp; done) | (simp; omega)) | ((first | ((with_reducible refine dwp_condI (t := ?_) ?_ (fun hcQ => ?_) (fun hcQ => ?_)); rotate_left; · rfl) | ((with_reducible refine dops_guardI (t := ?_) ?_ (fun hcQ => ?_) (fun hcQ => ?_)); rotate_left; · rfl)) <;> (have hn := hcQ; have hcondQ := hcQ) <;> (try simp only [decide_eq_true_eq, decide_eq_false_iff_not, beq_iff_eq, bne_iff_ne, ne_eq, Bool.and_eq_true, Bool.or_eq_true, Bool.not_eq_true, Bool.not_eq_false, beq_eq_false_iff_ne, bne_eq_false_iff_eq, Bool.not_eq_true', Bool.not_eq_false', Int.ofNat_lt, Int.ofNat_le, Bool.or_eq_false_iff, Bool.and_eq_false_imp, Decidable.not_not, gt_iff_lt, ge_iff_le] at hn) <;> (try (exfalso; omega)) <;> (refine Todo.of ?_)) | (((with_reducible refine dwp_condA ?_ ?_ ?_); · rfl) <;> (refine Todo.of ?_)))) <;> (try (first | (with_reducible rfl) | exact Nat.le_refl _ | exact Int.le_refl _ | assumption | omega))
  have hh : Rep hp n m q := hh
  have e1 := fun t => s_is_at (hh.app (t := t))
  simp only [aS, isS, outLo, jk, oJA, cJA, oSt]
  cases m
  · simp only [Bool.false_and, Bool.false_eq_true, if_false]
    (have hcondQ := Bool.and_self; refine Todo.of ?_); (repeat' (first | ((with_reducible refine Todo.to ?_); (repeat (first | (simp only [↓rP, rT, rU, eI, eU, eB, eS, eBs, eL, eA, buildCells, sepsD, sepB, hdl, dvalX, DOp.kind, dval, frameFrom, dBin, dInt, dStr, dBeq, dUn, dLoad, cellsAt, retV, retL, DR.val, fzT, fzVs, fzV, fz1, DV.immB, IntKind.bits, dCallP, viewVs, viewV, view1, capVL, capV, viewL, noMemV, noMem, elemsOf, dAppend, dAppz, dStore, DV.one, alive, freezeAt, fzLL, fzL, bRow, bU, cellsOf, setFrom, DV.isU, lenMax, lenCap, Nat.reduceEqDiff, Nat.reduceAdd, ↓reduceIte, reduceCtorEq, Nat.reduceSub, Int.reduceToNat, Int.reducePow, Nat.reducePow, Int.reduceLE, Int.reduceLT, Nat.reduceLeDiff, Nat.reduceLT, Int.reduceBEq, Int.reduceBNe, Int.reduceEq, Int.reduceNe, Int.reduceAdd, Int.reduceSub, Int.reduceMul, Int.reduceNeg, Int.reduceTDiv, Int.reduceTMod, Int.reduceMod, Int.reduceDiv, Nat.reduceMul, forall_const, implies_true, d_slot_Store_Load, eEns, eIls, eImg, ePrt, ePrts, eRows, eSs, eTy, eVn, eY, sls_len, ils_len, ils_rowsT, sls_rowsT, sls_tk0, ils_tk0, eo, e1, get3b, get3c, set3c, List.append_assoc, endH_normal, endH_ret , hcondQ]) | (simp (disch := omega) only [i64_id, u64_id, u8_id, getD_map'])))) | ((with_reducible refine And.intro ?_ ?_); · first | trivial | omega | (simp; done) | (simp; omega)) | ((first | ((with_reducible refine dwp_condI (t := ?_) ?_ (fun hcQ => ?_) (fun hcQ => ?_)); rotate_left; · rfl) | ((with_reducible refine dops_guardI (t := ?_) ?_ (fun hcQ => ?_) (fun hcQ => ?_)); rotate_left; · rfl)) <;> (have hn := hcQ; have hcondQ := hcQ) <;> (try simp only [decide_eq_true_eq, decide_eq_false_iff_not, beq_iff_eq, bne_iff_ne, ne_eq, Bool.and_eq_true, Bool.or_eq_true, Bool.not_eq_true, Bool.not_eq_false, beq_eq_false_iff_ne, bne_eq_false_iff_eq, Bool.not_eq_true', Bool.not_eq_false', Int.ofNat_lt, Int.ofNat_le, Bool.or_eq_false_iff, Bool.and_eq_false_imp, Decidable.not_not, gt_iff_lt, ge_iff_le] at hn) <;> (try (exfalso; omega)) <;> (refine Todo.of ?_)) | (((with_reducible refine dwp_condA ?_ ?_ ?_); · rfl) <;> (refine Todo.of ?_)))) <;> (try (first | (with_reducible rfl) | exact Nat.le_refl _ | exact Int.le_refl _ | assumption | omega))
  simp only [Bool.true_and]
  unfold misB
  by_cases z : missF ⟨true, x, l⟩ = 0
  rotate_left
  · have z1 : (missF ⟨true, x, l⟩ != 0) = true := by simp [z]
    have z2 : (missF ⟨true, x, l⟩ == 0) = false := by simp [z]
    simp only [z2, Bool.false_eq_true, if_false]
    (have hcondQ := Bool.and_self; refine Todo.of ?_); (repeat' (first | ((with_reducible refine Todo.to ?_); (repeat (first | (simp only [↓rP, rT, rU, eI, eU, eB, eS, eBs, eL, eA, buildCells, sepsD, sepB, hdl, dvalX, DOp.kind, dval, frameFrom, dBin, dInt, dStr, dBeq, dUn, dLoad, cellsAt, retV, retL, DR.val, fzT, fzVs, fzV, fz1, DV.immB, IntKind.bits, dCallP, viewVs, viewV, view1, capVL, capV, viewL, noMemV, noMem, elemsOf, dAppend, dAppz, dStore, DV.one, alive, freezeAt, fzLL, fzL, bRow, bU, cellsOf, setFrom, DV.isU, lenMax, lenCap, Nat.reduceEqDiff, Nat.reduceAdd, ↓reduceIte, reduceCtorEq, Nat.reduceSub, Int.reduceToNat, Int.reducePow, Nat.reducePow, Int.reduceLE, Int.reduceLT, Nat.reduceLeDiff, Nat.reduceLT, Int.reduceBEq, Int.reduceBNe, Int.reduceEq, Int.reduceNe, Int.reduceAdd, Int.reduceSub, Int.reduceMul, Int.reduceNeg, Int.reduceTDiv, Int.reduceTMod, Int.reduceMod, Int.reduceDiv, Nat.reduceMul, forall_const, implies_true, d_slot_Store_Load, eEns, eIls, eImg, ePrt, ePrts, eRows, eSs, eTy, eVn, eY, sls_len, ils_len, ils_rowsT, sls_rowsT, sls_tk0, ils_tk0, eo, e1, em, z1, tk, ils_len, get3b, get3c, set3c, List.append_assoc, endH_normal, endH_ret , hcondQ]) | (simp (disch := omega) only [i64_id, u64_id, u8_id, getD_map'])))) | ((with_reducible refine And.intro ?_ ?_); · first | trivial | omega | (simp; done) | (simp; omega)) | ((first | ((with_reducible refine dwp_condI (t := ?_) ?_ (fun hcQ => ?_) (fun hcQ => ?_)); rotate_left; · rfl) | ((with_reducible refine dops_guardI (t := ?_) ?_ (fun hcQ => ?_) (fun hcQ => ?_)); rotate_left; · rfl)) <;> (have hn := hcQ; have hcondQ := hcQ) <;> (try simp only [decide_eq_true_eq, decide_eq_false_iff_not, beq_iff_eq, bne_iff_ne, ne_eq, Bool.and_eq_true, Bool.or_eq_true, Bool.not_eq_true, Bool.not_eq_false, beq_eq_false_iff_ne, bne_eq_false_iff_eq, Bool.not_eq_true', Bool.not_eq_false', Int.ofNat_lt, Int.ofNat_le, Bool.or_eq_false_iff, Bool.and_eq_false_imp, Decidable.not_not, gt_iff_lt, ge_iff_le] at hn) <;> (try (exfalso; omega)) <;> (refine Todo.of ?_)) | (((with_reducible refine dwp_condA ?_ ?_ ?_); · rfl) <;> (refine Todo.of ?_)))) <;> (try (first | (with_reducible rfl) | exact Nat.le_refl _ | exact Int.le_refl _ | assumption | omega))
  have z1 : (missF ⟨true, x, l⟩ != 0) = false := by simp [z]
  have z2 : (missF ⟨true, x, l⟩ == 0) = true := by simp [z]
  simp only [z2, if_true]
  have e2 := fun t => s_held_at (hh.app (t := t))
  have o := fun t => get_app (t := t) hh.o
  have hn := hh.lt
  rcases bcases q.b with b | b
  · have hr : Rep ((hp ++ jk x l hp.length).set n (oQ true { q with v0 := ⟨true, x, l⟩, h0 := hp.length + 1 })) n true { q with v0 := ⟨true, x, l⟩, h0 := hp.length + 1 } :=
      Rep.set hh.app (kept_new get3b (by show hp.length + 1 ≠ n; omega)) hh.k1.app (fun _ t => by have := hh.k1.lt t; show hp.length + 1 ≠ q.h1; omega)
    have e3 := drop_of rfl hr
    simp only [oQ, cQ, jk, oJA, cJA, oSt, hc, b, if_true, if_false, Bool.false_eq_true] at e2 o e3
    have f : dropQ { q with v0 := ⟨true, x, l⟩, h0 := hp.length + 1 } = loadQ q x l (hp.length + 1) := by simp [dropQ, loadQ, b]
    (have hcondQ := Bool.and_self; refine Todo.of ?_); (repeat' (first | ((with_reducible refine Todo.to ?_); (repeat (first | (simp only [↓rP, rT, rU, eI, eU, eB, eS, eBs, eL, eA, buildCells, sepsD, sepB, hdl, dvalX, DOp.kind, dval, frameFrom, dBin, dInt, dStr, dBeq, dUn, dLoad, cellsAt, retV, retL, DR.val, fzT, fzVs, fzV, fz1, DV.immB, IntKind.bits, dCallP, viewVs, viewV, view1, capVL, capV, viewL, noMemV, noMem, elemsOf, dAppend, dAppz, dStore, DV.one, alive, freezeAt, fzLL, fzL, bRow, bU, cellsOf, setFrom, DV.isU, lenMax, lenCap, Nat.reduceEqDiff, Nat.reduceAdd, ↓reduceIte, reduceCtorEq, Nat.reduceSub, Int.reduceToNat, Int.reducePow, Nat.reducePow, Int.reduceLE, Int.reduceLT, Nat.reduceLeDiff, Nat.reduceLT, Int.reduceBEq, Int.reduceBNe, Int.reduceEq, Int.reduceNe, Int.reduceAdd, Int.reduceSub, Int.reduceMul, Int.reduceNeg, Int.reduceTDiv, Int.reduceTMod, Int.reduceMod, Int.reduceDiv, Nat.reduceMul, forall_const, implies_true, d_slot_Store_Load, eEns, eIls, eImg, ePrt, ePrts, eRows, eSs, eTy, eVn, eY, sls_len, ils_len, ils_rowsT, sls_rowsT, sls_tk0, ils_tk0, eo, e1, e2, e3, em, z1, o, tk, ils_len, get3b, get3c, set3c, List.append_assoc, List.drop_succ_cons, hc_one, endH_normal, endH_ret , hcondQ]) | (simp (disch := omega) only [i64_id, u64_id, u8_id, getD_map'])))) | ((with_reducible refine And.intro ?_ ?_); · first | trivial | omega | (simp; done) | (simp; omega)) | ((first | ((with_reducible refine dwp_condI (t := ?_) ?_ (fun hcQ => ?_) (fun hcQ => ?_)); rotate_left; · rfl) | ((with_reducible refine dops_guardI (t := ?_) ?_ (fun hcQ => ?_) (fun hcQ => ?_)); rotate_left; · rfl)) <;> (have hn := hcQ; have hcondQ := hcQ) <;> (try simp only [decide_eq_true_eq, decide_eq_false_iff_not, beq_iff_eq, bne_iff_ne, ne_eq, Bool.and_eq_true, Bool.or_eq_true, Bool.not_eq_true, Bool.not_eq_false, beq_eq_false_iff_ne, bne_eq_false_iff_eq, Bool.not_eq_true', Bool.not_eq_false', Int.ofNat_lt, Int.ofNat_le, Bool.or_eq_false_iff, Bool.and_eq_false_imp, Decidable.not_not, gt_iff_lt, ge_iff_le] at hn) <;> (try (exfalso; omega)) <;> (refine Todo.of ?_)) | (((with_reducible refine dwp_condA ?_ ?_ ?_); · rfl) <;> (refine Todo.of ?_)))) <;> (try (first | (with_reducible rfl) | exact Nat.le_refl _ | exact Int.le_refl _ | assumption | omega))
    simp [one, f, oQ, cQ, dropQ, loadQ, b, hc, vnZ]
  · have hr : Rep ((hp ++ jk x l hp.length).set n (oQ true { q with v1 := ⟨true, x, l⟩, h1 := hp.length + 1 })) n true { q with v1 := ⟨true, x, l⟩, h1 := hp.length + 1 } :=
      Rep.set hh.app hh.k0.app (kept_new get3b (by show hp.length + 1 ≠ n; omega)) (fun t _ => by have := hh.k0.lt t; show q.h0 ≠ hp.length + 1; omega)
    have e3 := drop_of rfl hr
    simp only [oQ, cQ, jk, oJA, cJA, oSt, hc, b, if_true, if_false, Bool.false_eq_true] at e2 o e3
    have f : dropQ { q with v1 := ⟨true, x, l⟩, h1 := hp.length + 1 } = loadQ q x l (hp.length + 1) := by simp [dropQ, loadQ, b]
    (have hcondQ := Bool.and_self; refine Todo.of ?_); (repeat' (first | ((with_reducible refine Todo.to ?_); (repeat (first | (simp only [↓rP, rT, rU, eI, eU, eB, eS, eBs, eL, eA, buildCells, sepsD, sepB, hdl, dvalX, DOp.kind, dval, frameFrom, dBin, dInt, dStr, dBeq, dUn, dLoad, cellsAt, retV, retL, DR.val, fzT, fzVs, fzV, fz1, DV.immB, IntKind.bits, dCallP, viewVs, viewV, view1, capVL, capV, viewL, noMemV, noMem, elemsOf, dAppend, dAppz, dStore, DV.one, alive, freezeAt, fzLL, fzL, bRow, bU, cellsOf, setFrom, DV.isU, lenMax, lenCap, Nat.reduceEqDiff, Nat.reduceAdd, ↓reduceIte, reduceCtorEq, Nat.reduceSub, Int.reduceToNat, Int.reducePow, Nat.reducePow, Int.reduceLE, Int.reduceLT, Nat.reduceLeDiff, Nat.reduceLT, Int.reduceBEq, Int.reduceBNe, Int.reduceEq, Int.reduceNe, Int.reduceAdd, Int.reduceSub, Int.reduceMul, Int.reduceNeg, Int.reduceTDiv, Int.reduceTMod, Int.reduceMod, Int.reduceDiv, Nat.reduceMul, forall_const, implies_true, d_slot_Store_Load, eEns, eIls, eImg, ePrt, ePrts, eRows, eSs, eTy, eVn, eY, sls_len, ils_len, ils_rowsT, sls_rowsT, sls_tk0, ils_tk0, eo, e1, e2, e3, em, z1, o, tk, ils_len, get3b, get3c, set3c, List.append_assoc, List.drop_succ_cons, hc_one, endH_normal, endH_ret , hcondQ]) | (simp (disch := omega) only [i64_id, u64_id, u8_id, getD_map'])))) | ((with_reducible refine And.intro ?_ ?_); · first | trivial | omega | (simp; done) | (simp; omega)) | ((first | ((with_reducible refine dwp_condI (t := ?_) ?_ (fun hcQ => ?_) (fun hcQ => ?_)); rotate_left; · rfl) | ((with_reducible refine dops_guardI (t := ?_) ?_ (fun hcQ => ?_) (fun hcQ => ?_)); rotate_left; · rfl)) <;> (have hn := hcQ; have hcondQ := hcQ) <;> (try simp only [decide_eq_true_eq, decide_eq_false_iff_not, beq_iff_eq, bne_iff_ne, ne_eq, Bool.and_eq_true, Bool.or_eq_true, Bool.not_eq_true, Bool.not_eq_false, beq_eq_false_iff_ne, bne_eq_false_iff_eq, Bool.not_eq_true', Bool.not_eq_false', Int.ofNat_lt, Int.ofNat_le, Bool.or_eq_false_iff, Bool.and_eq_false_imp, Decidable.not_not, gt_iff_lt, ge_iff_le] at hn) <;> (try (exfalso; omega)) <;> (refine Todo.of ?_)) | (((with_reducible refine dwp_condA ?_ ?_ ?_); · rfl) <;> (refine Todo.of ?_)))) <;> (try (first | (with_reducible rfl) | exact Nat.le_refl _ | exact Int.le_refl _ | assumption | omega))
    simp [one, f, oQ, cQ, dropQ, loadQ, b, hc, vnZ]

/-! Keep. -/
def rKe (y : Sp × List Int) (a : List DV) (hp : List DObj) : Prop := a = [aS y.1, .sl (ils y.2)] ∧ RS y.1 hp
theorem rKe_u : ∀ x y a hp, rKe x a hp → rKe y a hp → x = y := by
  rintro ⟨s, l⟩ ⟨s', l'⟩ a hp ⟨rfl, h⟩ ⟨e, h'⟩
  simp only [List.cons.injEq, DV.sl.injEq, and_true] at e
  have e9 : s = s' := RS_u h h' e.1
  rw [e9, ils_inj e.2]
end Go.Proofs.Ytfjddinibppmdaa
