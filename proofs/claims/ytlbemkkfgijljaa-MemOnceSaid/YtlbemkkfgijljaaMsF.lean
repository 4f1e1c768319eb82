/- What a Flow keeps at first, if that is not too much. -/
import Derived.Test.YtlbemkkfgijljaaMsE
set_option linter.all false
set_option maxRecDepth 20000
namespace Go.Proofs.Ytlbemkkfgijljaa
open Go.Nk

theorem tabs_pre (l : Fls) : ∀ (K j : Nat), j < K → (tabs l K).getD j (0, 0) = (tabs l (j + 1)).getD j (0, 0)
  | 0, j, h => by omega
  | K + 1, j, h => by
    rcases Nat.lt_or_ge j K with h1 | h1
    · rw [← tabs_pre l K j h1]
      simp only [tabs]
      rw [List.getD_eq_getElem?_getD, List.getElem?_append_left (by rw [tabs_len]; exact h1), ← List.getD_eq_getElem?_getD]
    · have : j = K := by omega
      subst this; rfl
theorem tabs_last (l : Fls) (i : Nat) : (tabs l (i + 1)).getD i (0, 0) = rowOf (tabs l i) i (flowAt l i) := by
  simp only [tabs]
  rw [List.getD_eq_getElem?_getD, List.getElem?_append_right (by rw [tabs_len]; exact Nat.le_refl _), tabs_len]
  simp
theorem min_sum {T : List (Int × Int)} {len : Pl → Nat} : ∀ (qs : List Pl) (a : Int), 0 ≤ a → (∀ q ∈ qs, (at2 T q).1 = min (len q : Int) 1000) → min (a + sum1 T qs) 1000 = min (a + ((qs.map len).sum : Nat)) 1000
  | [], a, _, _ => by simp [sum1]
  | q :: qs, a, h0, h => by
    have h1 := h q (by simp)
    have h2 := min_sum qs (a + (at2 T q).1) (by omega) fun q hq => h q (by simp [hq])
    simp only [sum1, List.map_cons, List.sum_cons]
    omega
/-- How much is counted is how much there is. -/
theorem count_len (l : Fls) : ∀ (i n : Nat), i < n → ((tabs l (i + 1)).getD i (0, 0)).1 = min ((startN l n i).length : Int) 1000 := by
  intro i
  induction i using Nat.strongRecOn with
  | _ i ih =>
    intro n hn
    obtain ⟨n, rfl⟩ : ∃ k, n = k + 1 := ⟨n - 1, by omega⟩
    rw [tabs_last]
    simp only [rowOf, startN, List.length_append, List.length_map, List.length_flatMap]
    rw [min_sum (len := fun q => (startN l n q.node).length) _ _ (by omega) (fun q hq => ?_)]
    · first | rfl | (congr 1; done) | (congr 1; simp only [List.length_map]; try omega)
    · have hc := (List.mem_filter.1 hq).2
      simp only [callQ, Bool.and_eq_true, decide_eq_true_eq] at hc
      obtain ⟨_, _, h0, h1⟩ := hc
      unfold at2
      rw [tabs_pre l i q.node.toNat (by omega), ih q.node.toNat (by omega) n (by omega)]
      rw [show ((q.node.toNat : Nat) : Int) = q.node by omega]

def okV (l : Fls) (at_ : Int) : Bool := !((countF l at_).2 == 0) && (decide ((countF l at_).1 ≤ 120) && decide ((countF l at_).2 ≤ 120))
def startV (l : Fls) (at_ : Int) : List Cel := if okV l at_ then startN l 11 at_ else []
theorem okV_in {l : Fls} {at_ : Int} (h : okV l at_ = true) : 0 ≤ at_ ∧ at_ < l.fs.length := by
  rcases Classical.em (0 ≤ at_ ∧ at_ < l.fs.length) with c | c
  · exact c
  · simp [okV, countF, c] at h
theorem okV_S {l : Fls} {at_ : Int} (hw : okW l) (h : okV l at_ = true) : okS l at_ 11 ∧ (startN l 11 at_).length ≤ 120 := by
  obtain ⟨h0, h1⟩ := okV_in h
  have h10 := hw.1.1
  obtain ⟨i, rfl⟩ : ∃ i : Nat, at_ = i := ⟨at_.toNat, by omega⟩
  have hc := count_len l i 11 (by omega)
  have e : countF l i = (tabs l (i + 1)).getD i (0, 0) := by simp only [countF, if_pos (And.intro h0 h1), Int.toNat_natCast]
  simp only [okV, e, Bool.and_eq_true, decide_eq_true_eq] at h
  have : (startN l 11 i).length ≤ 120 := by omega
  exact ⟨⟨hw, h0, by omega, h1, Nat.le_refl _, by omega⟩, this⟩
noncomputable def s_StartV : List DV → Prop × DV := spec2 eFls eI fun l at_ => (okW l, .tup [.sl ((startV l at_).map cCel), .bool (okV l at_)])
theorem s_StartV_at (l : Fls) (at_ : Int) : s_StartV [.agg (cFls l), .int .i64 at_] = (okW l, .tup [.sl ((startV l at_).map cCel), .bool (okV l at_)]) := spec2_at inj_Fls inj_I _ l at_
theorem ok_noriaref23_Start : OkP Try.prog 24 s_StartV := by
  refine OkP.mk2 (ps := [(22, s_Count), (44, s_start 11)]) (hs := []) ⟨ok_noriaref23_Count, ok_start 11, trivial⟩ trivial m_noriaref23_Start fun l at_ h => ?_
  have hw : okW l := h
  have e1 := s_Count_at l at_
  rw [eq_true hw.1] at e1
  dsimp only
  by_cases c : okV l at_ = true
  · have e2 := s_start_at 11 l at_
    have := okV_S hw c
    rw [eq_true this.1] at e2
    have e3 : startV l at_ = startN l 11 at_ := by rw [startV, if_pos c]
    rw [c, e3]
    simp only [okV, Bool.and_eq_true, Bool.not_eq_true', decide_eq_true_eq] at c
    obtain ⟨c1, c2, c3⟩ := c
    have c2' : decide ((120 : Int) < (countF l at_).1) = false := by simp; omega
    have c3' : decide ((120 : Int) < (countF l at_).2) = false := by simp; omega
    
    (have hcondQ := Bool.and_self; refine Todo.of ?_); (repeat' (first | ((with_reducible refine Todo.to ?_); (repeat (first | (simp only [↓rP, rT, rU, eI, eU, eB, eS, eBs, eL, eA, buildCells, sepsD, sepB, hdl, dvalX, DOp.kind, dval, frameFrom, dBin, dInt, dStr, dBeq, dUn, dLoad, cellsAt, retV, retL, DR.val, fzT, fzVs, fzV, fz1, DV.immB, IntKind.bits, dCallP, viewVs, viewV, view1, capVL, capV, viewL, noMemV, noMem, elemsOf, dAppend, dAppz, dStore, DV.one, alive, freezeAt, fzLL, fzL, bRow, bU, cellsOf, setFrom, DV.isU, lenMax, lenCap, Nat.reduceEqDiff, Nat.reduceAdd, ↓reduceIte, reduceCtorEq, Nat.reduceSub, Int.reduceToNat, Int.reducePow, Nat.reducePow, Int.reduceLE, Int.reduceLT, Nat.reduceLeDiff, Nat.reduceLT, Int.reduceBEq, Int.reduceBNe, Int.reduceEq, Int.reduceNe, Int.reduceAdd, Int.reduceSub, Int.reduceMul, Int.reduceNeg, Int.reduceTDiv, Int.reduceTMod, Int.reduceMod, Int.reduceDiv, Nat.reduceMul, forall_const, implies_true, d_noriaref23_Start, eCel, eCels, eCloGet, eCloSame, eFl, eFls, eIls, ePl, eRCels, eRIls, eRS, eRows, eSs, eTrn, eY, sls_len, ils_len, ils_rowsT, sls_rowsT, sls_tk0, ils_tk0, cel_tk0, cel_rowsT, ofI_p, ofI_h, only_normal, e1, e2, c1, c2', c3' , hcondQ]) | (simp (disch := omega) only [i64_id, u64_id, u8_id, getD_map'])))) | ((with_reducible refine And.intro ?_ ?_); · first | trivial | omega | (simp; done) | (simp; omega)) | ((first | ((with_reducible refine dwp_condI (t := ?_) ?_ (fun hcQ => ?_) (fun hcQ => ?_)); rotate_left; · rfl) | ((with_reducible refine dops_guardI (t := ?_) ?_ (fun hcQ => ?_) (fun hcQ => ?_)); rotate_left; · rfl)) <;> (have hn := hcQ; have hcondQ := hcQ) <;> (try simp only [decide_eq_true_eq, decide_eq_false_iff_not, beq_iff_eq, bne_iff_ne, ne_eq, Bool.and_eq_true, Bool.or_eq_true, Bool.not_eq_true, Bool.not_eq_false, beq_eq_false_iff_ne, bne_eq_false_iff_eq, Bool.not_eq_true', Bool.not_eq_false', Int.ofNat_lt, Int.ofNat_le, Bool.or_eq_false_iff, Bool.and_eq_false_imp, Decidable.not_not, gt_iff_lt, ge_iff_le] at hn) <;> (try (exfalso; omega)) <;> (refine Todo.of ?_)) | (((with_reducible refine dwp_condA ?_ ?_ ?_); · rfl) <;> (refine Todo.of ?_)))) <;> (try (first | (with_reducible rfl) | exact Nat.le_refl _ | exact Int.le_refl _ | assumption | omega))
  · have e3 : startV l at_ = [] := by rw [startV, if_neg c]
    have c : okV l at_ = false := by simpa using c
    rw [c, e3]
    
    (have hcondQ := Bool.and_self; refine Todo.of ?_); (repeat' (first | ((with_reducible refine Todo.to ?_); (repeat (first | (simp only [↓rP, rT, rU, eI, eU, eB, eS, eBs, eL, eA, buildCells, sepsD, sepB, hdl, dvalX, DOp.kind, dval, frameFrom, dBin, dInt, dStr, dBeq, dUn, dLoad, cellsAt, retV, retL, DR.val, fzT, fzVs, fzV, fz1, DV.immB, IntKind.bits, dCallP, viewVs, viewV, view1, capVL, capV, viewL, noMemV, noMem, elemsOf, dAppend, dAppz, dStore, DV.one, alive, freezeAt, fzLL, fzL, bRow, bU, cellsOf, setFrom, DV.isU, lenMax, lenCap, Nat.reduceEqDiff, Nat.reduceAdd, ↓reduceIte, reduceCtorEq, Nat.reduceSub, Int.reduceToNat, Int.reducePow, Nat.reducePow, Int.reduceLE, Int.reduceLT, Nat.reduceLeDiff, Nat.reduceLT, Int.reduceBEq, Int.reduceBNe, Int.reduceEq, Int.reduceNe, Int.reduceAdd, Int.reduceSub, Int.reduceMul, Int.reduceNeg, Int.reduceTDiv, Int.reduceTMod, Int.reduceMod, Int.reduceDiv, Nat.reduceMul, forall_const, implies_true, d_noriaref23_Start, eCel, eCels, eCloGet, eCloSame, eFl, eFls, eIls, ePl, eRCels, eRIls, eRS, eRows, eSs, eTrn, eY, sls_len, ils_len, ils_rowsT, sls_rowsT, sls_tk0, ils_tk0, cel_tk0, cel_rowsT, ofI_p, ofI_h, only_normal, e1, List.map_nil , hcondQ]) | (simp (disch := omega) only [i64_id, u64_id, u8_id, getD_map'])))) | ((with_reducible refine And.intro ?_ ?_); · first | trivial | omega | (simp; done) | (simp; omega)) | ((first | ((with_reducible refine dwp_condI (t := ?_) ?_ (fun hcQ => ?_) (fun hcQ => ?_)); rotate_left; · rfl) | ((with_reducible refine dops_guardI (t := ?_) ?_ (fun hcQ => ?_) (fun hcQ => ?_)); rotate_left; · rfl)) <;> (have hn := hcQ; have hcondQ := hcQ) <;> (try simp only [decide_eq_true_eq, decide_eq_false_iff_not, beq_iff_eq, bne_iff_ne, ne_eq, Bool.and_eq_true, Bool.or_eq_true, Bool.not_eq_true, Bool.not_eq_false, beq_eq_false_iff_ne, bne_eq_false_iff_eq, Bool.not_eq_true', Bool.not_eq_false', Int.ofNat_lt, Int.ofNat_le, Bool.or_eq_false_iff, Bool.and_eq_false_imp, Decidable.not_not, gt_iff_lt, ge_iff_le] at hn) <;> (try (exfalso; omega)) <;> (refine Todo.of ?_)) | (((with_reducible refine dwp_condA ?_ ?_ ?_); · rfl) <;> (refine Todo.of ?_)))) <;> (try (first | (with_reducible rfl) | exact Nat.le_refl _ | exact Int.le_refl _ | assumption | omega))
    all_goals (simp_all [okV]; try omega)

/-! What goes on is put behind what there is. -/
@[reducible] def TD : Duo (List Cel) := ⟨fun m v => ⟨.loc, 1, [[.own m v.length 0 v.length]]⟩, fun v => ⟨.imm, 2, v.map cCel⟩⟩
theorem TD_ok : TD.ok := by
  refine ⟨fun m v m' v' h => ?_, fun m v v' h1 h2 => ?_, fun m v k h => ?_, fun v k => rfl⟩
  · simp only [TD, DObj.mk.injEq, List.cons.injEq, DV.own.injEq, and_true, true_and] at h
    exact h.1
  · simp only [TD, DObj.mk.injEq, true_and] at h2
    exact map_inj cCel_inj _ _ h2
  · simp [TD, DObj.cut, DV.cut, DV.inB, h]
def rAdd (x : Nat × Nat × List Cel × Cel) (a : List DV) (hp : List DObj) : Prop := a = [.agg (cCel x.2.2.2), .ptr x.1 1 0 0] ∧ TD.is hp x.1 x.2.1 x.2.2.1
theorem TD_u {hp : List DObj} {n m m' : Nat} {v v' : List Cel} (h : TD.is hp n m v) (h' : TD.is hp n m' v') : m = m' ∧ v = v' := by
  have e1 := Option.some.inj (h.1.symm.trans h'.1)
  have e2 := TD_ok.inj1 _ _ _ _ e1
  subst e2
  exact ⟨rfl, TD_ok.inj2 _ _ _ e1 (Option.some.inj (h.2.1.symm.trans h'.2.1))⟩
theorem rAdd_u : ∀ x y a hp, rAdd x a hp → rAdd y a hp → x = y := by
  rintro ⟨n, m, v, c⟩ ⟨n', m', v', c'⟩ a hp ⟨h1, h2⟩ ⟨h3, h4⟩
  simp only at h1 h2 h3 h4
  rw [h1] at h3
  simp only [List.cons.injEq, DV.ptr.injEq, DV.agg.injEq, and_true, true_and] at h3
  obtain ⟨h5, rfl⟩ := h3
  obtain ⟨rfl, rfl⟩ := TD_u h2 h4
  have := cCel_inj c c' (by simpa [cCel] using h5)
  subst this
  rfl
noncomputable def s_add : List DV → List DObj → Res := specG rAdd (fun x => (x.2.2.1.length ≤ 1000, .tup [])) fun x hp => TD.put hp x.1 x.2.1 (x.2.2.1 ++ [x.2.2.2])
theorem s_add_at {hp t : List DObj} {n m : Nat} {v : List Cel} (k : Three hp n m) (c : Cel) : s_add [.agg (cCel c), .ptr n 1 0 0] (TD.put hp n m v ++ t) = ⟨v.length ≤ 1000, .tup [], TD.put hp n m (v ++ [c]) ++ t⟩ := by
  have := specG_at (f := fun x : Nat × Nat × List Cel × Cel => (x.2.2.1.length ≤ 1000, DV.tup [])) (out := fun x hp => TD.put hp x.1 x.2.1 (x.2.2.1 ++ [x.2.2.2])) rAdd_u (x := (n, m, v, c)) (a := [.agg (cCel c), .ptr n 1 0 0]) (hp := TD.put hp n m v ++ t) ⟨rfl, Duo.put_is k⟩
  unfold s_add
  rw [this, Duo.put_put k]
theorem TD_set {hp t : List DObj} {n m : Nat} {v : List Cel} {c : Cel} (k : Three hp n m) :
    ((TD.put hp n m v ++ t).set m ⟨.imm, 2, (v ++ [c]).map cCel⟩).set n ⟨.loc, 1, [[.own m (v.length + 1) 0 (v.length + 1)]]⟩ = TD.put hp n m (v ++ [c]) ++ t := by
  obtain ⟨k1, k2, k3⟩ := k
  rw [List.set_append_left _ _ (by simpa [Duo.put] using k2), List.set_append_left _ _ (by simpa [Duo.put] using k1)]
  congr 1
  unfold Duo.put
  refine List.ext_getElem? fun i => ?_
  by_cases h1 : n = i <;> by_cases h2 : m = i <;> simp_all [List.getElem?_set]
theorem TD_get {hp t : List DObj} {n m : Nat} {v : List Cel} {o : DObj} (k : Three hp n m) : ((TD.put hp n m v ++ t).set m o)[n]? = some (TD.o m v) := by
  rw [List.getElem?_set_ne (fun h => k.2.2 h.symm)]
  exact Duo.get_o k
theorem ok_add : OkH Try.prog 43 s_add := by
  refine OkH.mkG (ps := []) (hs := []) trivial trivial m_mem_Start_1 (fun x a hp h => by rw [h.1]; rfl) fun x a hp h hpre => ?_
  obtain ⟨n, m, v, c⟩ := x
  obtain ⟨rfl, hi⟩ := h
  simp only at hi hpre ⊢
  have k := Duo.is_three hi
  have e0 : (⟨frameFrom 0 [.agg (cCel c), .ptr n 1 0 0], hp⟩ : DS) = (⟨frameFrom 0 [.agg (cCel c), .ptr n 1 0 0], TD.put hp n m v ++ []⟩ : DS) := by rw [Duo.is_put hi, List.append_nil]
  rw [e0]
  have hcm := cel_one c v
  
  (have hcondQ := Bool.and_self; refine Todo.of ?_); (repeat' (first | ((with_reducible refine Todo.to ?_); (repeat (first | (simp only [↓rP, rT, rU, eI, eU, eB, eS, eBs, eL, eA, buildCells, sepsD, sepB, hdl, dvalX, DOp.kind, dval, frameFrom, dBin, dInt, dStr, dBeq, dUn, dLoad, cellsAt, retV, retL, DR.val, fzT, fzVs, fzV, fz1, DV.immB, IntKind.bits, dCallP, viewVs, viewV, view1, capVL, capV, viewL, noMemV, noMem, elemsOf, dAppend, dAppz, dStore, DV.one, alive, freezeAt, fzLL, fzL, bRow, bU, cellsOf, setFrom, DV.isU, lenMax, lenCap, Nat.reduceEqDiff, Nat.reduceAdd, ↓reduceIte, reduceCtorEq, Nat.reduceSub, Int.reduceToNat, Int.reducePow, Nat.reducePow, Int.reduceLE, Int.reduceLT, Nat.reduceLeDiff, Nat.reduceLT, Int.reduceBEq, Int.reduceBNe, Int.reduceEq, Int.reduceNe, Int.reduceAdd, Int.reduceSub, Int.reduceMul, Int.reduceNeg, Int.reduceTDiv, Int.reduceTMod, Int.reduceMod, Int.reduceDiv, Nat.reduceMul, forall_const, implies_true, d_mem_Start_1, eCel, eCels, eCloGet, eCloSame, eFl, eFls, eIls, ePl, eRCels, eRIls, eRS, eRows, eSs, eTrn, eY, sls_len, ils_len, ils_rowsT, sls_rowsT, sls_tk0, ils_tk0, cel_tk0, cel_rowsT, ofI_p, ofI_h, only_normal, Duo.get_o k, Duo.get_c k, TD_get k, TD_set k, List.append_assoc, Nat.add_zero, Duo.put_len, Duo.put_lenA, endT_normal, endT_ret, dSlice, dBound, List.length_drop, Nat.mul_one, List.length_map, hcm, List.length_map, Nat.lt_irrefl, Int.lt_irrefl, Int.toNat_natCast, lenMax, lenCap, endC_normal, endC_ret , hcondQ]) | (simp (disch := omega) only [i64_id, u64_id, u8_id, getD_map'])))) | ((with_reducible refine And.intro ?_ ?_); · first | trivial | omega | (simp; done) | (simp; omega)) | ((first | ((with_reducible refine dwp_condI (t := ?_) ?_ (fun hcQ => ?_) (fun hcQ => ?_)); rotate_left; · rfl) | ((with_reducible refine dops_guardI (t := ?_) ?_ (fun hcQ => ?_) (fun hcQ => ?_)); rotate_left; · rfl)) <;> (have hn := hcQ; have hcondQ := hcQ) <;> (try simp only [decide_eq_true_eq, decide_eq_false_iff_not, beq_iff_eq, bne_iff_ne, ne_eq, Bool.and_eq_true, Bool.or_eq_true, Bool.not_eq_true, Bool.not_eq_false, beq_eq_false_iff_ne, bne_eq_false_iff_eq, Bool.not_eq_true', Bool.not_eq_false', Int.ofNat_lt, Int.ofNat_le, Bool.or_eq_false_iff, Bool.and_eq_false_imp, Decidable.not_not, gt_iff_lt, ge_iff_le] at hn) <;> (try (exfalso; omega)) <;> (refine Todo.of ?_)) | (((with_reducible refine dwp_condA ?_ ?_ ?_); · rfl) <;> (refine Todo.of ?_)))) <;> (try (first | (with_reducible rfl) | exact Nat.le_refl _ | exact Int.le_refl _ | assumption | omega))
  exact Duo.put_end (by simp [DObj.cut, DV.cut, DV.inB, k.2.1]) cut_imm
end Go.Proofs.Ytlbemkkfgijljaa
