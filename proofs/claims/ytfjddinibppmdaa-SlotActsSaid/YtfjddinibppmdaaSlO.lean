/- SlotActs. -/
import Derived.Test.YtfjddinibppmdaaSlN
set_option linter.all false
set_option maxRecDepth 20000
namespace Go.Proofs.Ytfjddinibppmdaa
open Go.Nk

structure okW (a : As) : Prop where
  k : okA a
  fh : fewF a.h.x = true
  fo : fewF a.o.x = true
theorem few_Z : fewF imgZ = true := by decide
theorem okV_z : okV vnZ := ⟨by decide, by decide⟩
theorem okV_of {x : Img} {l : List Int} {b : Bool} (h : fewF x = true) (hl : l.length ≤ 1200) : okV ⟨b, x, l⟩ := ⟨(few_E h).2.2.2.1, hl⟩
theorem okW_act {a : As} (h : okW a) {x : Img} (hx : fewF x = true) {v : List Int} (hv : v.length ≤ 1200) (d : Int) : okW (actA a x v d) := by
  unfold actA
  split
  · unfold loadA; split
    · exact ⟨⟨okV_of hx hv, okV_z, fun e => by cases e⟩, hx, few_Z⟩
    · exact h
  split
  · unfold keepA; split
    · exact ⟨⟨okV_of h.fh hv, h.k.o, fun _ => rfl⟩, h.fh, h.fo⟩
    · exact h
  split
  · unfold stageA; split
    · rename_i t
      exact ⟨⟨h.k.h, okV_of hx (by decide), fun _ => t⟩, h.fh, hx⟩
    · exact h
  split
  · unfold writeA; split
    · rename_i t
      simp only [wrOk, Bool.and_eq_true, decide_eq_true_eq, missF] at t
      have b := sumC_bd a.o.x.slots h.k.o.1
      obtain ⟨_, t⟩ := t
      have t2 : (v.length : Int) ≤ sumC a.o.x.slots - (a.o.st.length : Int) := of_decide_eq_true t
      exact ⟨⟨h.k.h, ⟨h.k.o.1, by show (a.o.st ++ v).length ≤ 1200; rw [List.length_append]; omega⟩, h.k.ho⟩, h.fh, h.fo⟩
    · exact h
  split
  · unfold commitA; split
    · rename_i t
      simp only [cmOk, Bool.and_eq_true] at t
      exact ⟨⟨h.k.o, h.k.h, fun _ => t.1⟩, h.fo, h.fh⟩
    · exact h
  · exact ⟨⟨h.k.h, okV_z, fun e => by cases e⟩, h.fh, few_Z⟩
theorem Rep.other {hp : List DObj} {n k : Nat} {m : Bool} {q : Qs} {w : As} {o : DObj} (h : Rep hp n m q) (hk : hp[k]? = some (oW w)) (ne : k ≠ n) : Rep (one hp k o) n m q := by
  have f : ∀ {v : Vn} {i : Nat}, Kept hp n v i → Kept (one hp k o) n v i := fun {v i} kp => ⟨fun e => ⟨by
    have hi := (kp.1 e).1
    rw [one_ne (fun c => by subst c; have := Option.some.inj (hi.symm.trans hk); unfold oSt oW at this; injection this with e1 _ _; cases e1)]
    exact hi, (kp.1 e).2⟩, kp.2⟩
  exact ⟨by rw [one_ne (Ne.symm ne)]; exact h.o, f h.k0, f h.k1, h.ne⟩
theorem Rep.he_z {hp : List DObj} {n : Nat} {m : Bool} {q : Qs} (h : Rep hp n m q) (t : q.he.there = false) : q.he = vnZ := by
  unfold Qs.he at t ⊢
  split
  · rename_i b; rw [if_pos b] at t; exact (h.k1.2 t).1
  · rename_i b; rw [if_neg b] at t; exact (h.k0.2 t).1
theorem imgAt_few {l : List Img} (h : ∀ x ∈ l, fewF x = true) (i : Int) : fewF (imgAt l i) = true := by
  unfold imgAt
  split
  · exact few_Z
  · cases e : l[i.toNat]? with
    | none => exact few_Z
    | some x => exact h x (List.mem_of_getElem? e)
theorem set2b {hp : List DObj} {a b c : DObj} : (hp ++ [a, b]).set (hp.length + 1) c = hp ++ [a, c] := by rw [List.set_append_right _ _ (by omega)]; simp
theorem bn_self (b : Bool) : (b != b) = false := by cases b <;> rfl
noncomputable def s_lawActs : List DV → Prop × DV := spec2 eImgs eActs fun l a => (∀ x ∈ l, okLen x, .bool true)
theorem s_lawActs_at (l : List Img) (a : List Act) : s_lawActs [.sl (l.map cImg), .sl (a.map cAct)] = (∀ x ∈ l, okLen x, .bool true) := spec2_at inj_Imgs inj_Acts _ l a
set_option maxHeartbeats 2000000 in
theorem ok_norialaw42_SlotActs : OkP Try.prog 4 s_lawActs := by
  refine OkP.mk2 (ps := [(6, s_fewL), (7, s_liveS), (16, s_SameImg), (17, s_Vals)]) (hs := [(8, s_New), (18, s_act), (10, s_Active), (19, s_Staged), (20, s_wMany), (21, s_Commits)])
    ⟨ok_norialaw42_few, ok_norialaw42_live, ok_noriaref33_Same, ok_noriaref01_Vals, trivial⟩ ⟨ok_New, ok_act, ok_Active, ok_Staged, ok_wMany, ok_Commits, trivial⟩ m_norialaw42_SlotActs fun l acts h => ?_
  have h : ∀ x ∈ l, okLen x := h
  have ef := s_fewL_at l acts
  rw [eq_true h] at ef
  have el := s_liveS_at
  
  cases c : fewL l acts
  · rw [c] at ef
    (have hcondQ := Bool.and_self; refine Todo.of ?_); (repeat' (first | ((with_reducible refine Todo.to ?_); (repeat (first | (simp only [↓rP, rT, rU, eI, eU, eB, eS, eBs, eL, eA, buildCells, sepsD, sepB, hdl, dvalX, DOp.kind, dval, frameFrom, dBin, dInt, dStr, dBeq, dUn, dLoad, cellsAt, retV, retL, DR.val, fzT, fzVs, fzV, fz1, DV.immB, IntKind.bits, dCallP, viewVs, viewV, view1, capVL, capV, viewL, noMemV, noMem, elemsOf, dAppend, dAppz, dStore, DV.one, alive, freezeAt, fzLL, fzL, bRow, bU, cellsOf, setFrom, DV.isU, lenMax, lenCap, Nat.reduceEqDiff, Nat.reduceAdd, ↓reduceIte, reduceCtorEq, Nat.reduceSub, Int.reduceToNat, Int.reducePow, Nat.reducePow, Int.reduceLE, Int.reduceLT, Nat.reduceLeDiff, Nat.reduceLT, Int.reduceBEq, Int.reduceBNe, Int.reduceEq, Int.reduceNe, Int.reduceAdd, Int.reduceSub, Int.reduceMul, Int.reduceNeg, Int.reduceTDiv, Int.reduceTMod, Int.reduceMod, Int.reduceDiv, Nat.reduceMul, forall_const, implies_true, d_norialaw42_SlotActs, s_fewL_at, eActs, eEns, eIls, eImg, eImgs, ePrt, ePrts, eRows, eSs, eTy, eVn, eY, sls_len, ils_len, ils_rowsT, sls_rowsT, sls_tk0, ils_tk0, ef, el , hcondQ]) | (simp (disch := omega) only [i64_id, u64_id, u8_id, getD_map'])))) | ((with_reducible refine And.intro ?_ ?_); · first | trivial | omega | (simp; done) | (simp; omega)) | ((first | ((with_reducible refine dwp_condI (t := ?_) ?_ (fun hcQ => ?_) (fun hcQ => ?_)); rotate_left; · rfl) | ((with_reducible refine dops_guardI (t := ?_) ?_ (fun hcQ => ?_) (fun hcQ => ?_)); rotate_left; · rfl)) <;> (have hn := hcQ; have hcondQ := hcQ) <;> (try simp only [decide_eq_true_eq, decide_eq_false_iff_not, beq_iff_eq, bne_iff_ne, ne_eq, Bool.and_eq_true, Bool.or_eq_true, Bool.not_eq_true, Bool.not_eq_false, beq_eq_false_iff_ne, bne_eq_false_iff_eq, Bool.not_eq_true', Bool.not_eq_false', Int.ofNat_lt, Int.ofNat_le, Bool.or_eq_false_iff, Bool.and_eq_false_imp, Decidable.not_not, gt_iff_lt, ge_iff_le] at hn) <;> (try (exfalso; omega)) <;> (refine Todo.of ?_)) | (((with_reducible refine dwp_condA ?_ ?_ ?_); · rfl) <;> (refine Todo.of ?_)))) <;> (try (first | (with_reducible rfl) | exact Nat.le_refl _ | exact Int.le_refl _ | assumption | omega))
  rw [c] at ef
  obtain ⟨f1, f2, f3, f4⟩ := fewL_E c
  have eN : s_New [] [] = ⟨True, .ptr 0 1 0 0, [oQ true qZ]⟩ := by rw [s_New_at]; rfl
  have oz : oW qZ.as = ⟨.loc, 17, [[.bool false, .sl [], .sl [], .sl [], .sl [], .sl [], .sl [], .sl [], .bool false, .sl [], .sl [], .sl [], .sl [], .sl [], .sl [], .sl [], .int .i64 0]]⟩ := rfl
  have r0 : Rep [oQ true qZ, oW qZ.as] 0 true qZ := rep_z (hp := []) (t := [oW qZ.as])
  (have hcondQ := Bool.and_self; refine Todo.of ?_); (repeat' (first | ((with_reducible refine Todo.to ?_); (repeat (first | (simp only [↓rP, rT, rU, eI, eU, eB, eS, eBs, eL, eA, buildCells, sepsD, sepB, hdl, dvalX, DOp.kind, dval, frameFrom, dBin, dInt, dStr, dBeq, dUn, dLoad, cellsAt, retV, retL, DR.val, fzT, fzVs, fzV, fz1, DV.immB, IntKind.bits, dCallP, viewVs, viewV, view1, capVL, capV, viewL, noMemV, noMem, elemsOf, dAppend, dAppz, dStore, DV.one, alive, freezeAt, fzLL, fzL, bRow, bU, cellsOf, setFrom, DV.isU, lenMax, lenCap, Nat.reduceEqDiff, Nat.reduceAdd, ↓reduceIte, reduceCtorEq, Nat.reduceSub, Int.reduceToNat, Int.reducePow, Nat.reducePow, Int.reduceLE, Int.reduceLT, Nat.reduceLeDiff, Nat.reduceLT, Int.reduceBEq, Int.reduceBNe, Int.reduceEq, Int.reduceNe, Int.reduceAdd, Int.reduceSub, Int.reduceMul, Int.reduceNeg, Int.reduceTDiv, Int.reduceTMod, Int.reduceMod, Int.reduceDiv, Nat.reduceMul, forall_const, implies_true, d_norialaw42_SlotActs, s_fewL_at, eActs, eEns, eIls, eImg, eImgs, ePrt, ePrts, eRows, eSs, eTy, eVn, eY, sls_len, ils_len, ils_rowsT, sls_rowsT, sls_tk0, ils_tk0, ef, eN , hcondQ]) | (simp (disch := omega) only [i64_id, u64_id, u8_id, getD_map'])))) | ((with_reducible refine And.intro ?_ ?_); · first | trivial | omega | (simp; done) | (simp; omega)) | ((first | ((with_reducible refine dwp_condI (t := ?_) ?_ (fun hcQ => ?_) (fun hcQ => ?_)); rotate_left; · rfl) | ((with_reducible refine dops_guardI (t := ?_) ?_ (fun hcQ => ?_) (fun hcQ => ?_)); rotate_left; · rfl)) <;> (have hn := hcQ; have hcondQ := hcQ) <;> (try simp only [decide_eq_true_eq, decide_eq_false_iff_not, beq_iff_eq, bne_iff_ne, ne_eq, Bool.and_eq_true, Bool.or_eq_true, Bool.not_eq_true, Bool.not_eq_false, beq_eq_false_iff_ne, bne_eq_false_iff_eq, Bool.not_eq_true', Bool.not_eq_false', Int.ofNat_lt, Int.ofNat_le, Bool.or_eq_false_iff, Bool.and_eq_false_imp, Decidable.not_not, gt_iff_lt, ge_iff_le] at hn) <;> (try (exfalso; omega)) <;> (refine Todo.of ?_)) | (((with_reducible refine dwp_condA ?_ ?_ ?_); · rfl) <;> (refine Todo.of ?_)))) <;> (try (first | (with_reducible rfl) | exact Nat.le_refl _ | exact Int.le_refl _ | assumption | omega))
  rw [← oz]
  refine dwp_loop (fun y : Nat × List DObj × Qs => ⟨[(0, .sl (l.map cImg)), (1, .sl (acts.map cAct)), (5, .ptr 0 1 0 0), (6, .ptr 1 1 0 0), (7, .int .i64 y.1)], y.2.1⟩) (fun y => y.1 ≤ acts.length ∧ Rep y.2.1 0 true y.2.2 ∧ y.2.1[1]? = some (oW y.2.2.as) ∧ okW y.2.2.as) (fun y => acts.length - y.1) (0, [oQ true qZ, oW qZ.as], qZ) trivial (by simp only [cut_some, cut_none, List.map_cons, List.map_nil, get_cons, Nk.get_nil, Nat.reduceEqDiff, ↓reduceIte, Nat.succ_ne_self, DV.cut, DV.inB, DObj.cut, List.take_nil, List.take_zero, if_true, Nat.zero_ne_one, Nat.one_ne_zero, DV.inBL, Bool.and_true, Bool.true_and, reduceCtorEq, Nat.zero_lt_one, decide_true, decide_false, Nat.reduceLT, List.take_succ_cons, Int.natCast_add, Int.natCast_one, List.length_append, List.length_cons, List.length_nil, Nat.zero_add] <;> rfl)
    ⟨Nat.zero_le _, r0, rfl, ⟨⟨okV_z, okV_z, fun e => by cases e⟩, few_Z, few_Z⟩⟩ fun y hy => ?_
  obtain ⟨k, hp, q⟩ := y
  obtain ⟨hk, r, w, ow⟩ := hy
  simp only at hk r w ow ⊢
  by_cases d : k < acts.length
  rotate_left
  · have d2 : ¬ (k : Int) < acts.length := by omega
    (have hcondQ := Bool.and_self; refine Todo.of ?_); (repeat' (first | ((with_reducible refine Todo.to ?_); (repeat (first | (simp only [↓rP, rT, rU, eI, eU, eB, eS, eBs, eL, eA, buildCells, sepsD, sepB, hdl, dvalX, DOp.kind, dval, frameFrom, dBin, dInt, dStr, dBeq, dUn, dLoad, cellsAt, retV, retL, DR.val, fzT, fzVs, fzV, fz1, DV.immB, IntKind.bits, dCallP, viewVs, viewV, view1, capVL, capV, viewL, noMemV, noMem, elemsOf, dAppend, dAppz, dStore, DV.one, alive, freezeAt, fzLL, fzL, bRow, bU, cellsOf, setFrom, DV.isU, lenMax, lenCap, Nat.reduceEqDiff, Nat.reduceAdd, ↓reduceIte, reduceCtorEq, Nat.reduceSub, Int.reduceToNat, Int.reducePow, Nat.reducePow, Int.reduceLE, Int.reduceLT, Nat.reduceLeDiff, Nat.reduceLT, Int.reduceBEq, Int.reduceBNe, Int.reduceEq, Int.reduceNe, Int.reduceAdd, Int.reduceSub, Int.reduceMul, Int.reduceNeg, Int.reduceTDiv, Int.reduceTMod, Int.reduceMod, Int.reduceDiv, Nat.reduceMul, forall_const, implies_true, d_norialaw42_SlotActs, s_fewL_at, eActs, eEns, eIls, eImg, eImgs, ePrt, ePrts, eRows, eSs, eTy, eVn, eY, sls_len, ils_len, ils_rowsT, sls_rowsT, sls_tk0, ils_tk0, d2, el, List.length_map , hcondQ]) | (simp (disch := omega) only [i64_id, u64_id, u8_id, getD_map'])))) | ((with_reducible refine And.intro ?_ ?_); · first | trivial | omega | (simp; done) | (simp; omega)) | ((first | ((with_reducible refine dwp_condI (t := ?_) ?_ (fun hcQ => ?_) (fun hcQ => ?_)); rotate_left; · rfl) | ((with_reducible refine dops_guardI (t := ?_) ?_ (fun hcQ => ?_) (fun hcQ => ?_)); rotate_left; · rfl)) <;> (have hn := hcQ; have hcondQ := hcQ) <;> (try simp only [decide_eq_true_eq, decide_eq_false_iff_not, beq_iff_eq, bne_iff_ne, ne_eq, Bool.and_eq_true, Bool.or_eq_true, Bool.not_eq_true, Bool.not_eq_false, beq_eq_false_iff_ne, bne_eq_false_iff_eq, Bool.not_eq_true', Bool.not_eq_false', Int.ofNat_lt, Int.ofNat_le, Bool.or_eq_false_iff, Bool.and_eq_false_imp, Decidable.not_not, gt_iff_lt, ge_iff_le] at hn) <;> (try (exfalso; omega)) <;> (refine Todo.of ?_)) | (((with_reducible refine dwp_condA ?_ ?_ ?_); · rfl) <;> (refine Todo.of ?_)))) <;> (try (first | (with_reducible rfl) | exact Nat.le_refl _ | exact Int.le_refl _ | assumption | omega))
  have d2 : (k : Int) < acts.length := by omega
  obtain ⟨a, hx⟩ : ∃ a, acts[k]? = some a := ⟨acts[k], by simp [d]⟩
  have rr := map_getD cAct hx
  have wk : IntKind.i64.wrap ((k : Int) + 1) = ((k + 1 : Nat) : Int) := by rw [wrap_i64_id (by omega)]; omega
  have k0 : (0 : Int) ≤ k := by omega
  have fx := imgAt_few f1 a.i
  have fv := f2 a (List.mem_of_getElem? hx)
  have e1 := s_act_at (l := l) (a := a) r w ⟨ow.k, (few_E fx).2.2.2.1, fv⟩
  obtain ⟨st, as2⟩ := act_step (r.app (t := [⟨.loc, 6, [cImg (imgAt l a.i)]⟩])) (imgAt l a.i) a.v a.d
  have ow2 := okW_act ow fx fv a.d
  rw [← as2] at e1 ow2
  have w1 := st.k 1 _ (by decide) (get_app w) rfl
  have r1 := st.r
  clear st as2
  generalize actS 0 q (imgAt l a.i) a.v a.d _ = hp1 at e1 r1 w1
  generalize actQ q (imgAt l a.i) a.v a.d _ = q2 at e1 r1 ow2
  have r2 : Rep (one hp1 1 (oW q2.as)) 0 true q2 := r1.other w1 (by decide)
  have w2 : (one hp1 1 (oW q2.as))[1]? = some (oW q2.as) := List.getElem?_set_self (List.getElem?_eq_some_iff.1 w1).1
  generalize one hp1 1 (oW q2.as) = hp2 at e1 r2 w2
  clear r1 w1
  have e2 := s_Active_at r2
  rw [eq_true (show q2.he.there = true → q2.he.st.length ≤ 1200 from fun _ => ow2.k.h.2)] at e2
  have e3 := fun t => s_Staged_at (r2.app (t := t))
  have e4 := fun t => s_wMany_at (get_app (t := t) w2)
  have e5 := fun t => s_Commits_at (r2.app (t := t))
  have es : stF (some (0, true, q2)) = if q2.as.o.there then (q2.as.o.st.length : Int) else -1 := rfl
  rw [es] at e3
  generalize (if q2.as.o.there then (q2.as.o.st.length : Int) else -1) = sg at e3 e4
  simp only [cmF, if_true] at e5
  have o := fun t => get_app (t := t) w2
  have inv : ∀ t, Rep (hp2 ++ t) 0 true q2 ∧ (hp2 ++ t)[1]? = some (oW q2.as) := fun t => ⟨r2.app, get_app w2⟩
  have eI := s_SameImg_same (x := q2.he.x) ow2.fh
  have eV := s_Vals_same q2.he.st (by have := ow2.k.h.2; show q2.as.h.st.length ≤ 1000000000; omega)
  have tk := ils_tkl q2.he.st
  have hz := r2.he_z
  have hah : q2.as.h = q2.he := rfl
  have hac : q2.as.c = q2.c := rfl
  rcases bcases q2.he.there with t | t
  · simp only [t, Bool.false_eq_true, if_false, acNo] at e2
    have hz := hz t
    simp only [oW, cW, hah, hac, t] at o
    rw [hz] at eI eV o
    have i0 : ils [] = [] := rfl
    simp only [vnZ, imgZ, i0, List.map_nil] at e2 eI eV o
    have eZ : s_SameImg [.agg [.sl [], .sl [], .sl [], .sl [], .sl [], .sl []], .agg [.sl [], .sl [], .sl [], .sl [], .sl [], .sl []]] = (True, .bool true) := s_SameImg_same few_Z
    have eY : s_Vals [.sl [], .sl []] = (True, .bool true) := s_Vals_same [] (by decide)
    (have hcondQ := Bool.and_self; refine Todo.of ?_); (repeat' (first | ((with_reducible refine Todo.to ?_); (repeat (first | (simp only [↓rP, rT, rU, eI, eU, eB, eS, eBs, eL, eA, buildCells, sepsD, sepB, hdl, dvalX, DOp.kind, dval, frameFrom, dBin, dInt, dStr, dBeq, dUn, dLoad, cellsAt, retV, retL, DR.val, fzT, fzVs, fzV, fz1, DV.immB, IntKind.bits, dCallP, viewVs, viewV, view1, capVL, capV, viewL, noMemV, noMem, elemsOf, dAppend, dAppz, dStore, DV.one, alive, freezeAt, fzLL, fzL, bRow, bU, cellsOf, setFrom, DV.isU, lenMax, lenCap, Nat.reduceEqDiff, Nat.reduceAdd, ↓reduceIte, reduceCtorEq, Nat.reduceSub, Int.reduceToNat, Int.reducePow, Nat.reducePow, Int.reduceLE, Int.reduceLT, Nat.reduceLeDiff, Nat.reduceLT, Int.reduceBEq, Int.reduceBNe, Int.reduceEq, Int.reduceNe, Int.reduceAdd, Int.reduceSub, Int.reduceMul, Int.reduceNeg, Int.reduceTDiv, Int.reduceTMod, Int.reduceMod, Int.reduceDiv, Nat.reduceMul, forall_const, implies_true, d_norialaw42_SlotActs, s_fewL_at, eActs, eEns, eIls, eImg, eImgs, ePrt, ePrts, eRows, eSs, eTy, eVn, eY, sls_len, ils_len, ils_rowsT, sls_rowsT, sls_tk0, ils_tk0, d2, rr, k0, wk, e1, e2, e3, e4, e5, eZ, eY, o, end_get, end_set, get2b, set2b, i0, bn_self, bne_self_eq_false, List.append_assoc, List.drop_succ_cons, List.length_map , hcondQ]) | (simp (disch := omega) only [i64_id, u64_id, u8_id, getD_map'])))) | ((with_reducible refine And.intro ?_ ?_); · first | trivial | omega | (simp; done) | (simp; omega)) | ((first | ((with_reducible refine dwp_condI (t := ?_) ?_ (fun hcQ => ?_) (fun hcQ => ?_)); rotate_left; · rfl) | ((with_reducible refine dops_guardI (t := ?_) ?_ (fun hcQ => ?_) (fun hcQ => ?_)); rotate_left; · rfl)) <;> (have hn := hcQ; have hcondQ := hcQ) <;> (try simp only [decide_eq_true_eq, decide_eq_false_iff_not, beq_iff_eq, bne_iff_ne, ne_eq, Bool.and_eq_true, Bool.or_eq_true, Bool.not_eq_true, Bool.not_eq_false, beq_eq_false_iff_ne, bne_eq_false_iff_eq, Bool.not_eq_true', Bool.not_eq_false', Int.ofNat_lt, Int.ofNat_le, Bool.or_eq_false_iff, Bool.and_eq_false_imp, Decidable.not_not, gt_iff_lt, ge_iff_le] at hn) <;> (try (exfalso; omega)) <;> (refine Todo.of ?_)) | (((with_reducible refine dwp_condA ?_ ?_ ?_); · rfl) <;> (refine Todo.of ?_)))) <;> (try (first | (with_reducible rfl) | exact Nat.le_refl _ | exact Int.le_refl _ | assumption | omega))
    exact ⟨(k + 1, _, q2), by simp only [cut_some, cut_none, List.map_cons, List.map_nil, get_cons, Nk.get_nil, Nat.reduceEqDiff, ↓reduceIte, Nat.succ_ne_self, DV.cut, DV.inB, DObj.cut, List.take_nil, List.take_zero, if_true, Nat.zero_ne_one, Nat.one_ne_zero, DV.inBL, Bool.and_true, Bool.true_and, reduceCtorEq, Nat.zero_lt_one, decide_true, decide_false, Nat.reduceLT, List.take_succ_cons, Int.natCast_add, Int.natCast_one, List.length_append, List.length_cons, List.length_nil, Nat.zero_add] <;> rfl, ⟨by omega, (inv _).1, (inv _).2, ow2⟩, by simp only; omega⟩
  · simp only [t, if_true, acYes] at e2
    simp only [oW, cW, hah, hac, t] at o
    simp only [oSt] at e2
    (have hcondQ := Bool.and_self; refine Todo.of ?_); (repeat' (first | ((with_reducible refine Todo.to ?_); (repeat (first | (simp only [↓rP, rT, rU, eI, eU, eB, eS, eBs, eL, eA, buildCells, sepsD, sepB, hdl, dvalX, DOp.kind, dval, frameFrom, dBin, dInt, dStr, dBeq, dUn, dLoad, cellsAt, retV, retL, DR.val, fzT, fzVs, fzV, fz1, DV.immB, IntKind.bits, dCallP, viewVs, viewV, view1, capVL, capV, viewL, noMemV, noMem, elemsOf, dAppend, dAppz, dStore, DV.one, alive, freezeAt, fzLL, fzL, bRow, bU, cellsOf, setFrom, DV.isU, lenMax, lenCap, Nat.reduceEqDiff, Nat.reduceAdd, ↓reduceIte, reduceCtorEq, Nat.reduceSub, Int.reduceToNat, Int.reducePow, Nat.reducePow, Int.reduceLE, Int.reduceLT, Nat.reduceLeDiff, Nat.reduceLT, Int.reduceBEq, Int.reduceBNe, Int.reduceEq, Int.reduceNe, Int.reduceAdd, Int.reduceSub, Int.reduceMul, Int.reduceNeg, Int.reduceTDiv, Int.reduceTMod, Int.reduceMod, Int.reduceDiv, Nat.reduceMul, forall_const, implies_true, d_norialaw42_SlotActs, s_fewL_at, eActs, eEns, eIls, eImg, eImgs, ePrt, ePrts, eRows, eSs, eTy, eVn, eY, sls_len, ils_len, ils_rowsT, sls_rowsT, sls_tk0, ils_tk0, d2, rr, k0, wk, e1, e2, e3, e4, e5, eI, eV, o, tk, ils_len, get3b, get3c, set3c, bn_self, bne_self_eq_false, List.append_assoc, List.drop_succ_cons, List.length_map , hcondQ]) | (simp (disch := omega) only [i64_id, u64_id, u8_id, getD_map'])))) | ((with_reducible refine And.intro ?_ ?_); · first | trivial | omega | (simp; done) | (simp; omega)) | ((first | ((with_reducible refine dwp_condI (t := ?_) ?_ (fun hcQ => ?_) (fun hcQ => ?_)); rotate_left; · rfl) | ((with_reducible refine dops_guardI (t := ?_) ?_ (fun hcQ => ?_) (fun hcQ => ?_)); rotate_left; · rfl)) <;> (have hn := hcQ; have hcondQ := hcQ) <;> (try simp only [decide_eq_true_eq, decide_eq_false_iff_not, beq_iff_eq, bne_iff_ne, ne_eq, Bool.and_eq_true, Bool.or_eq_true, Bool.not_eq_true, Bool.not_eq_false, beq_eq_false_iff_ne, bne_eq_false_iff_eq, Bool.not_eq_true', Bool.not_eq_false', Int.ofNat_lt, Int.ofNat_le, Bool.or_eq_false_iff, Bool.and_eq_false_imp, Decidable.not_not, gt_iff_lt, ge_iff_le] at hn) <;> (try (exfalso; omega)) <;> (refine Todo.of ?_)) | (((with_reducible refine dwp_condA ?_ ?_ ?_); · rfl) <;> (refine Todo.of ?_)))) <;> (try (first | (with_reducible rfl) | exact Nat.le_refl _ | exact Int.le_refl _ | assumption | omega))
    exact ⟨(k + 1, _, q2), by simp only [cut_some, cut_none, List.map_cons, List.map_nil, get_cons, Nk.get_nil, Nat.reduceEqDiff, ↓reduceIte, Nat.succ_ne_self, DV.cut, DV.inB, DObj.cut, List.take_nil, List.take_zero, if_true, Nat.zero_ne_one, Nat.one_ne_zero, DV.inBL, Bool.and_true, Bool.true_and, reduceCtorEq, Nat.zero_lt_one, decide_true, decide_false, Nat.reduceLT, List.take_succ_cons, Int.natCast_add, Int.natCast_one, List.length_append, List.length_cons, List.length_nil, Nat.zero_add] <;> rfl, ⟨by omega, (inv _).1, (inv _).2, ow2⟩, by simp only; omega⟩
theorem reads_Act : Reads (.struct [.int .i64, .int .i64, .slice (.int .i64)]) cAct (fun _ => True) :=
  Reads.as (Reads.struct (Reads.cons Reads.int (Reads.cons Reads.int (Reads.cons reads_Is Reads.nil)))) (fun x => ⟨x.1, x.2.1, x.2.2.1⟩) (fun _ => rfl) (fun _ _ => trivial)
theorem reads_Acts : Reads (.slice (.struct [.int .i64, .int .i64, .slice (.int .i64)])) (fun l : List Act => [.sl (l.map cAct)]) (fun _ => True) :=
  Reads.as (Reads.slice reads_Act) (fun l => l) (fun _ => rfl) (fun _ _ => trivial)
theorem reads_Imgs : Reads (.slice shImg) (fun l : List Img => [.sl (l.map cImg)]) (fun l => ∀ x ∈ l, okLen x) :=
  Reads.as (Reads.slice reads_Img) (fun l => l) (fun _ => rfl) (fun _ h => h.2)
theorem slotActs_tells (dvs : List DV) (h : HasAll Try.prog [22, 23] dvs) : TellsP Try.prog 4 dvs (.bool true) := by
  obtain ⟨d1, r, rfl, h1, d2, r', rfl, h2, rfl⟩ := h
  obtain ⟨l, hl, hw⟩ := HasV_one (by kernel_rfl) rfl reads_Imgs h1
  obtain ⟨a, ha, _⟩ := HasV_one (by kernel_rfl) rfl reads_Acts h2
  injection hl with hl
  injection ha with ha
  subst hl ha
  have e := s_lawActs_at l a
  have := (ok_norialaw42_SlotActs _ (by rw [e]; exact hw)).2
  rw [e] at this
  exact this
end Go.Proofs.Ytfjddinibppmdaa
