/- Blocks by the document: the walk. -/
import Derived.Test.YtonpjojccjijfaaObc7
import Derived.Test.YtonpjojccjijfaaNkZ6
set_option linter.all false
set_option maxRecDepth 20000
namespace Go.Proofs.Ytonpjojccjijfaa
open Go.Nk

@[reducible] def rowR (p : Blk × Nat) : List DV := [.sl (p.1.on.map cSN), .own p.2 p.1.body.length 0 p.1.body.length]
structure HQ (c : Cls) (R : List (Blk × Nat)) (hp : List DObj) : Prop where
  box : hp[0]? = some ⟨.loc, 5, [cCls c]⟩
  rows : hp[1]? = some ⟨if R = [] then .imm else .loc, 2, R.map rowR⟩
  at' : ∀ p ∈ R, 2 ≤ p.2 ∧ hp[p.2]? = some ⟨.imm, 11, p.1.body.map cStmt⟩
  nd : (R.map (·.2)).Nodup
theorem HQ.len {c R hp} (h : HQ c R hp) : 2 ≤ hp.length := by
  have := h.rows
  rw [List.getElem?_eq_some_iff] at this
  exact this.1

theorem set_app {α : Type} (H t : List α) (i : Nat) (x : α) (h : i < H.length) : (H ++ t).set i x = H.set i x ++ t := List.set_append_left _ _ h
theorem get_app {α : Type} (H t : List α) (i : Nat) (h : i < H.length) : (H ++ t)[i]? = H[i]? := List.getElem?_append_left h
theorem get_end {α : Type} (H t : List α) (x : α) : (H ++ x :: t)[H.length]? = some x := by simp
theorem get_end1 {α : Type} (H t : List α) (x y : α) : (H ++ x :: y :: t)[H.length + 1]? = some y := by
  rw [List.getElem?_append_right (by omega)]; simp
theorem get_end2 {α : Type} (H t : List α) (x y z : α) : (H ++ x :: y :: z :: t)[H.length + 2]? = some z := by
  rw [List.getElem?_append_right (by omega)]; simp
theorem set_end {α : Type} (H t : List α) (x y : α) : (H ++ x :: t).set H.length y = H ++ y :: t := by
  rw [List.set_append_right _ _ (Nat.le_refl _)]; simp

theorem HQ.new {c R hp} (h : HQ c R hp) (b : Blk) (x y : DObj) (es : List (List DV)) (he : es = R.map rowR ++ [rowR (b, hp.length + 1)]) (bs : List (List DV)) (hbs : bs = b.body.map cStmt) :
    HQ c (R ++ [(b, hp.length + 1)]) (hp.set 1 ⟨.loc, 2, es⟩ ++ [x, ⟨.imm, 11, bs⟩, y]) := by
  have hl := h.len
  subst he; subst hbs
  have old : ∀ i, i ≠ 1 → i < hp.length → ∀ t, (hp.set 1 ⟨.loc, 2, R.map rowR ++ [rowR (b, hp.length + 1)]⟩ ++ t)[i]? = hp[i]? := fun i h1 h2 t => by
    rw [get_app _ _ _ (by simpa using h2), List.getElem?_set_ne (by omega)]
  have lt : ∀ p ∈ R, p.2 < hp.length := fun p hp' => by
    have := (h.at' p hp').2
    rw [List.getElem?_eq_some_iff] at this
    exact this.1
  refine ⟨?_, ?_, fun p hp' => ?_, ?_⟩
  · rw [old 0 (by omega) (by omega)]; exact h.box
  · rw [get_app _ _ _ (by simp; omega), List.getElem?_set_self (by omega), if_neg (by simp), List.map_append, List.map_singleton]
  · rcases List.mem_append.1 hp' with hp' | hp'
    · exact ⟨(h.at' p hp').1, by rw [old p.2 (by have := (h.at' p hp').1; omega) (lt p hp')]; exact (h.at' p hp').2⟩
    · simp only [List.mem_singleton] at hp'
      subst hp'
      refine ⟨by simp only; omega, ?_⟩
      have := get_end1 (hp.set 1 ⟨.loc, 2, R.map rowR ++ [rowR (b, hp.length + 1)]⟩) [y] x ⟨.imm, 11, b.body.map cStmt⟩
      rw [List.length_set] at this
      exact this
  · rw [List.map_append, List.nodup_append]
    refine ⟨h.nd, by simp, fun a ha b' hb' => ?_⟩
    obtain ⟨p, hp1, rfl⟩ := List.mem_map.1 ha
    simp only [List.map_cons, List.map_nil, List.mem_singleton] at hb'
    have := lt p hp1
    omega
theorem HQ.same {c R hp} {p : Blk × Nat} (h : HQ c (R ++ [p]) hp) (b : Blk) (x : DObj) (es : List (List DV)) (he : es = R.map rowR ++ [rowR (b, p.2)]) (bs : List (List DV)) (hbs : bs = b.body.map cStmt) :
    HQ c (R ++ [(b, p.2)]) ((hp.set p.2 ⟨.imm, 11, bs⟩).set 1 ⟨.loc, 2, es⟩ ++ [x]) := by
  have hl := h.len
  subst he; subst hbs
  have lt : ∀ q ∈ R ++ [p], q.2 < hp.length := fun q hq' => by
    have := (h.at' q hq').2
    rw [List.getElem?_eq_some_iff] at this
    exact this.1
  have ltp := lt p (by simp)
  have p2 := (h.at' p (by simp)).1
  have nd := h.nd
  rw [List.map_append, List.nodup_append] at nd
  have old : ∀ i, i ≠ 1 → i ≠ p.2 → i < hp.length → ∀ t, ((hp.set p.2 ⟨.imm, 11, b.body.map cStmt⟩).set 1 ⟨.loc, 2, R.map rowR ++ [rowR (b, p.2)]⟩ ++ t)[i]? = hp[i]? := fun i h1 h3 h2 t => by
    rw [get_app _ _ _ (by simpa using h2), List.getElem?_set_ne (by omega), List.getElem?_set_ne (by omega)]
  refine ⟨?_, ?_, fun q hq' => ?_, ?_⟩
  · rw [old 0 (by omega) (by omega) (by omega)]; exact h.box
  · rw [get_app _ _ _ (by simp; omega), List.getElem?_set_self (by simp; omega), if_neg (by simp), List.map_append, List.map_singleton]
  · rcases List.mem_append.1 hq' with hq' | hq'
    · have m := List.mem_append_left [p] hq'
      refine ⟨(h.at' q m).1, ?_⟩
      rw [old q.2 (by have := (h.at' q m).1; omega) ?_ (lt q m)]
      · exact (h.at' q m).2
      · exact nd.2.2 q.2 (List.mem_map_of_mem hq') p.2 (by simp)
    · simp only [List.mem_singleton] at hq'
      subst hq'
      refine ⟨p2, ?_⟩
      show ((hp.set p.2 ⟨.imm, 11, b.body.map cStmt⟩).set 1 ⟨.loc, 2, R.map rowR ++ [rowR (b, p.2)]⟩ ++ [x])[p.2]? = _
      rw [get_app _ _ _ (by simpa using ltp), List.getElem?_set_ne (by omega), List.getElem?_set_self ltp]
  · rw [List.map_append, List.nodup_append]
    exact nd

/-- Rows made free of handles. -/
theorem fz_rows : ∀ (R : List (Blk × Nat)) (hp : List DObj), (∀ p ∈ R, 2 ≤ p.2 ∧ ∃ k, (k = .imm ∨ k = .frz) ∧ hp[p.2]? = some ⟨k, 11, p.1.body.map cStmt⟩) →
    (fzLL hp (R.map rowR)).pre ∧ (fzLL hp (R.map rowR)).vals = R.map (fun p => cBlk p.1) ∧ (fzLL hp (R.map rowR)).hp[1]? = hp[1]?
  | [], _, _ => ⟨trivial, rfl, rfl⟩
  | p :: R, hp, h => by
    obtain ⟨h2, k, hk, hp2⟩ := h p (by simp)
    have ih := fz_rows R (freezeAt hp p.2) fun q hq => by
      obtain ⟨g2, j, hj, g3⟩ := h q (by simp [hq])
      refine ⟨g2, ?_⟩
      unfold freezeAt
      rw [hp2]
      by_cases e : p.2 = q.2
      · rw [← e, hp2] at g3
        injection g3 with g3
        injection g3 with g3 g4 g5
        refine ⟨.frz, .inr rfl, ?_⟩
        rw [← e, List.getElem?_set_self (List.getElem?_eq_some_iff.1 hp2).1, ← g5]
      · refine ⟨j, hj, ?_⟩
        dsimp only
        rw [List.getElem?_set_ne e]
        exact g3
    have e1 : (freezeAt hp p.2)[1]? = hp[1]? := by
      unfold freezeAt
      rw [hp2]
      dsimp only
      rw [List.getElem?_set_ne (by omega)]
    have e2 : elemsOf hp (.own p.2 p.1.body.length 0 p.1.body.length) = ⟨True, p.1.body.map cStmt⟩ := by
      simp only [elemsOf, hp2, hk, if_true, List.length_map, Nat.zero_add, Nat.le_refl, and_self, List.drop_zero]
      rw [List.take_of_length_le (by simp)]
    have e3 : fzL hp (rowR p) = ⟨True, cBlk p.1, freezeAt hp p.2⟩ := by
      simp only [rowR, fzL, fz1, DV.immB, if_true, e2, and_self]
    simp only [List.map_cons, fzLL, e3, true_and]
    rw [e1] at ih
    exact ⟨ih.1, by rw [ih.2.1], ih.2.2⟩

theorem ok_ref_Blocks : OkP Try.prog 12 s_Blocks := by
  refine OkP.mk1 (ps := [(21, s_onEq)]) (hs := []) ⟨ok_ref17_onEq, trivial⟩ trivial m_noriaref25_Blocks fun c h => ?_
  have hb : c.body.length ≤ 1000000 := h.1
  
  (have hcondQ := Bool.and_self; refine Todo.of ?_); (repeat' (first | ((with_reducible refine Todo.to ?_); (repeat (first | (simp only [↓rP, rT, rU, eI, eU, eB, eS, eBs, eL, eA, buildCells, sepsD, sepB, hdl, dvalX, DOp.kind, dval, frameFrom, dBin, dInt, dStr, dBeq, dUn, dLoad, cellsAt, retV, retL, DR.val, fzT, fzVs, fzV, fz1, DV.immB, IntKind.bits, dCallP, viewVs, viewV, view1, capVL, capV, viewL, noMemV, noMem, elemsOf, dAppend, dAppz, dStore, DV.one, alive, freezeAt, fzLL, fzL, bRow, bU, cellsOf, setFrom, DV.isU, lenMax, lenCap, Nat.reduceEqDiff, Nat.reduceAdd, ↓reduceIte, reduceCtorEq, Nat.reduceSub, Int.reduceToNat, Int.reducePow, Nat.reducePow, Int.reduceLE, Int.reduceLT, Nat.reduceLeDiff, Nat.reduceLT, Int.reduceBEq, Int.reduceBNe, Int.reduceEq, Int.reduceNe, Int.reduceAdd, Int.reduceSub, Int.reduceMul, Int.reduceNeg, Int.reduceTDiv, Int.reduceTMod, Int.reduceMod, Int.reduceDiv, Nat.reduceMul, forall_const, implies_true, d_noriaref25_Blocks , hcondQ]) | (simp (disch := omega) only [i64_id, u64_id, u8_id, getD_map'])))) | ((with_reducible refine And.intro ?_ ?_); · first | trivial | omega | (simp; done) | (simp; omega)) | ((first | ((with_reducible refine dwp_condI (t := ?_) ?_ (fun hcQ => ?_) (fun hcQ => ?_)); rotate_left; · rfl) | ((with_reducible refine dops_guardI (t := ?_) ?_ (fun hcQ => ?_) (fun hcQ => ?_)); rotate_left; · rfl)) <;> (have hn := hcQ; have hcondQ := hcQ) <;> (try simp only [decide_eq_true_eq, decide_eq_false_iff_not, beq_iff_eq, bne_iff_ne, ne_eq, Bool.and_eq_true, Bool.or_eq_true, Bool.not_eq_true, Bool.not_eq_false, beq_eq_false_iff_ne, bne_eq_false_iff_eq, Bool.not_eq_true', Bool.not_eq_false', Int.ofNat_lt, Int.ofNat_le, Bool.or_eq_false_iff, Bool.and_eq_false_imp, Decidable.not_not, gt_iff_lt, ge_iff_le] at hn) <;> (try (exfalso; omega)) <;> (refine Todo.of ?_)) | (((with_reducible refine dwp_condA ?_ ?_ ?_); · rfl) <;> (refine Todo.of ?_)))) <;> (try (first | (with_reducible rfl) | exact Nat.le_refl _ | exact Int.le_refl _ | assumption | omega))
  refine dwp_loop (fun x : Nat × List (Blk × Nat) × List DObj => ⟨[(1, .ptr 0 1 0 0), (3, .own 1 x.2.1.length 0 x.2.1.length), (4, .int .i64 x.1)], x.2.2⟩) (fun x => x.1 ≤ c.body.length ∧ x.2.1.length ≤ x.1 ∧ HQ c x.2.1 x.2.2 ∧ x.2.1.map (·.1) = (c.body.take x.1).foldl fnB [] ∧ ∀ p ∈ x.2.1, p.1.body.length ≤ x.1 ∧ lw any p.1.on) (fun x => c.body.length - x.1) (0, [], [⟨.loc, 5, [cCls c]⟩, ⟨.imm, 2, []⟩]) trivial ?_ ⟨Nat.zero_le _, Nat.le_refl _, ⟨rfl, rfl, by simp, by simp⟩, rfl, by simp⟩ fun x hx => ?_
  · simp only [cut_some, cut_none, List.map_cons, List.map_nil, get_cons, Nk.get_nil, Nat.reduceEqDiff, ↓reduceIte, Nat.succ_ne_self, DV.cut, DV.inB, DObj.cut, List.take_nil, List.take_zero, if_true, Nat.zero_ne_one, Nat.one_ne_zero, DV.inBL, Bool.and_true, Bool.true_and, reduceCtorEq, Nat.zero_lt_one, decide_true, decide_false, Nat.reduceLT, List.take_succ_cons]; rfl
  obtain ⟨k, R, hp⟩ := x
  obtain ⟨hk, hR, hq, hf, hall⟩ := hx
  simp only at hk hR hq hf hall ⊢
  have hl := hq.len
  have l0 : 0 < hp.length := by omega
  have l1 : 1 < hp.length := by omega
  have q0 := hq.box
  have q1 := hq.rows
  have g0 : ∀ t, (hp ++ t)[0]? = some ⟨.loc, 5, [cCls c]⟩ := fun t => by rw [get_app _ _ _ l0, q0]
  have g1 : ∀ t, (hp ++ t)[1]? = some ⟨if R = [] then .imm else .loc, 2, R.map rowR⟩ := fun t => by rw [get_app _ _ _ l1, q1]
  have ge : ∀ t x, (hp ++ x :: t)[hp.length]? = some x := fun t x => get_end hp t x
  have ge1 : ∀ t x y, (hp ++ x :: y :: t)[hp.length + 1]? = some y := fun t x => get_end1 hp t x
  have ge2 : ∀ t x y z, (hp ++ x :: y :: z :: t)[hp.length + 2]? = some z := fun t x => get_end2 hp t x
  have se : ∀ t x y, (hp ++ x :: t).set hp.length y = hp ++ y :: t := fun t x y => set_end hp t x y
  have s1 : ∀ t y, (hp ++ t).set 1 y = hp.set 1 y ++ t := fun t y => set_app hp t 1 y l1
  by_cases hlt : k < c.body.length
  · obtain ⟨s, hs⟩ : ∃ s, c.body[k]? = some s := ⟨c.body[k], by simp [hlt]⟩
    have hrow := map_getD cStmt hs
    have wk := wk_of hlt (by omega)
    have hk0 : (0 : Int) ≤ k := by omega
    have ws : lw any s.q.on := (h.2 s (List.mem_of_getElem? hs)).2.2.2
    have t1 := take_of hs
    rcases List.eq_nil_or_concat R with rfl | ⟨R', p, hRp⟩
    · have q1 : hp[1]? = some ⟨.imm, 2, []⟩ := q1
      have g1 : ∀ t, (hp ++ t)[1]? = some ⟨.imm, 2, []⟩ := g1
      (have hcondQ := Bool.and_self; refine Todo.of ?_); (repeat' (first | ((with_reducible refine Todo.to ?_); (repeat (first | (simp only [↓rP, rT, rU, eI, eU, eB, eS, eBs, eL, eA, buildCells, sepsD, sepB, hdl, dvalX, DOp.kind, dval, frameFrom, dBin, dInt, dStr, dBeq, dUn, dLoad, cellsAt, retV, retL, DR.val, fzT, fzVs, fzV, fz1, DV.immB, IntKind.bits, dCallP, viewVs, viewV, view1, capVL, capV, viewL, noMemV, noMem, elemsOf, dAppend, dAppz, dStore, DV.one, alive, freezeAt, fzLL, fzL, bRow, bU, cellsOf, setFrom, DV.isU, lenMax, lenCap, Nat.reduceEqDiff, Nat.reduceAdd, ↓reduceIte, reduceCtorEq, Nat.reduceSub, Int.reduceToNat, Int.reducePow, Nat.reducePow, Int.reduceLE, Int.reduceLT, Nat.reduceLeDiff, Nat.reduceLT, Int.reduceBEq, Int.reduceBNe, Int.reduceEq, Int.reduceNe, Int.reduceAdd, Int.reduceSub, Int.reduceMul, Int.reduceNeg, Int.reduceTDiv, Int.reduceTMod, Int.reduceMod, Int.reduceDiv, Nat.reduceMul, forall_const, implies_true, d_noriaref25_Blocks, hlt, hrow, wk, q0, q1, g0, g1, ge, ge1, ge2, se, s1, List.append_assoc, List.length_map , hcondQ]) | (simp (disch := omega) only [i64_id, u64_id, u8_id, getD_map'])))) | ((with_reducible refine And.intro ?_ ?_); · first | trivial | omega | (simp; done) | (simp; omega)) | ((first | ((with_reducible refine dwp_condI (t := ?_) ?_ (fun hcQ => ?_) (fun hcQ => ?_)); rotate_left; · rfl) | ((with_reducible refine dops_guardI (t := ?_) ?_ (fun hcQ => ?_) (fun hcQ => ?_)); rotate_left; · rfl)) <;> (have hn := hcQ; have hcondQ := hcQ) <;> (try simp only [decide_eq_true_eq, decide_eq_false_iff_not, beq_iff_eq, bne_iff_ne, ne_eq, Bool.and_eq_true, Bool.or_eq_true, Bool.not_eq_true, Bool.not_eq_false, beq_eq_false_iff_ne, bne_eq_false_iff_eq, Bool.not_eq_true', Bool.not_eq_false', Int.ofNat_lt, Int.ofNat_le, Bool.or_eq_false_iff, Bool.and_eq_false_imp, Decidable.not_not, gt_iff_lt, ge_iff_le] at hn) <;> (try (exfalso; omega)) <;> (refine Todo.of ?_)) | (((with_reducible refine dwp_condA ?_ ?_ ?_); · rfl) <;> (refine Todo.of ?_)))) <;> (try (first | (with_reducible rfl) | exact Nat.le_refl _ | exact Int.le_refl _ | assumption | omega))
      refine ⟨(k + 1, [(⟨s.q.on, [bareS [] s]⟩, hp.length + 1)], _), by simp only [cut_some, cut_none, List.map_cons, List.map_nil, get_cons, Nk.get_nil, Nat.reduceEqDiff, ↓reduceIte, Nat.succ_ne_self, DV.cut, DV.inB, DObj.cut, List.take_nil, List.take_zero, if_true, Nat.zero_ne_one, Nat.one_ne_zero, DV.inBL, Bool.and_true, Bool.true_and, reduceCtorEq, Nat.zero_lt_one, decide_true, decide_false, Nat.reduceLT, List.take_succ_cons]; rfl, ⟨hlt, by simp, ?_, ?_, ?_⟩, by simp only; omega⟩
      · exact hq.new ⟨s.q.on, [bareS [] s]⟩ _ _ _ rfl _ rfl
      · rw [t1, List.foldl_append, ← hf]; rfl
      · intro p hp'
        simp only [List.mem_singleton] at hp'
        subst hp'
        exact ⟨by simp, ws⟩
    · rw [List.concat_eq_append] at hRp
      subst hRp
      have ed : R' ++ [p] ≠ [] := by simp
      rw [if_neg ed] at q1
      simp only [if_neg ed] at g1
      have ap := hq.at' p (by simp)
      have a1 := ap.2
      have a0 := (List.getElem?_eq_some_iff.1 a1).1
      have gp : ∀ t, (hp ++ t)[p.2]? = some ⟨.imm, 11, p.1.body.map cStmt⟩ := fun t => by rw [get_app _ _ _ a0, a1]
      have sp : ∀ t y, (hp ++ t).set p.2 y = hp.set p.2 y ++ t := fun t y => set_app hp t p.2 y a0
      have s1' : ∀ t x y, (hp.set p.2 x ++ t).set 1 y = (hp.set p.2 x).set 1 y ++ t := fun t x y => set_app _ t 1 y (by simpa using l1)
      have g1' : ∀ t x, (hp.set p.2 x ++ t)[1]? = some ⟨.loc, 2, (R' ++ [p]).map rowR⟩ := fun t x => by rw [get_app _ _ _ (by simpa using l1), List.getElem?_set_ne (by omega), q1]
      have hpa := hall p (by simp)
      have eo := s_onEq_at p.1.on s.q.on
      rw [eq_true (show lw any p.1.on ∧ lw any s.q.on from ⟨hpa.2, ws⟩)] at eo
      have n1 : (R' ++ [p]).length = R'.length + 1 := by simp
      have w1 : IntKind.i64.wrap (((R'.length + 1 : Nat) : Int) - 1) = (R'.length : Int) := by rw [wrap_i64_id (by omega)]; omega
      have pos : (0 : Int) < ((R'.length + 1 : Nat) : Int) := by omega
      have r1 : ((R' ++ [p]).map rowR).getD R'.length [] = rowR p := by simp [List.getD]
      have r2 : ∀ x, ((R' ++ [p]).map rowR).set R'.length x = R'.map rowR ++ [x] := fun x => by
        rw [List.map_append, List.set_append_right _ _ (by simp)]
        simp
      cases hoe : onEq p.1.on s.q.on with
      | true =>
        (have hcondQ := Bool.and_self; refine Todo.of ?_); (repeat' (first | ((with_reducible refine Todo.to ?_); (repeat (first | (simp only [↓rP, rT, rU, eI, eU, eB, eS, eBs, eL, eA, buildCells, sepsD, sepB, hdl, dvalX, DOp.kind, dval, frameFrom, dBin, dInt, dStr, dBeq, dUn, dLoad, cellsAt, retV, retL, DR.val, fzT, fzVs, fzV, fz1, DV.immB, IntKind.bits, dCallP, viewVs, viewV, view1, capVL, capV, viewL, noMemV, noMem, elemsOf, dAppend, dAppz, dStore, DV.one, alive, freezeAt, fzLL, fzL, bRow, bU, cellsOf, setFrom, DV.isU, lenMax, lenCap, Nat.reduceEqDiff, Nat.reduceAdd, ↓reduceIte, reduceCtorEq, Nat.reduceSub, Int.reduceToNat, Int.reducePow, Nat.reducePow, Int.reduceLE, Int.reduceLT, Nat.reduceLeDiff, Nat.reduceLT, Int.reduceBEq, Int.reduceBNe, Int.reduceEq, Int.reduceNe, Int.reduceAdd, Int.reduceSub, Int.reduceMul, Int.reduceNeg, Int.reduceTDiv, Int.reduceTMod, Int.reduceMod, Int.reduceDiv, Nat.reduceMul, forall_const, implies_true, d_noriaref25_Blocks, hlt, hrow, wk, q0, q1, g0, g1, g1', ge, ge1, ge2, se, s1, s1', sp, gp, n1, w1, pos, r1, r2, eo, hoe, List.append_assoc, List.length_map , hcondQ]) | (simp (disch := omega) only [i64_id, u64_id, u8_id, getD_map'])))) | ((with_reducible refine And.intro ?_ ?_); · first | trivial | omega | (simp; done) | (simp; omega)) | ((first | ((with_reducible refine dwp_condI (t := ?_) ?_ (fun hcQ => ?_) (fun hcQ => ?_)); rotate_left; · rfl) | ((with_reducible refine dops_guardI (t := ?_) ?_ (fun hcQ => ?_) (fun hcQ => ?_)); rotate_left; · rfl)) <;> (have hn := hcQ; have hcondQ := hcQ) <;> (try simp only [decide_eq_true_eq, decide_eq_false_iff_not, beq_iff_eq, bne_iff_ne, ne_eq, Bool.and_eq_true, Bool.or_eq_true, Bool.not_eq_true, Bool.not_eq_false, beq_eq_false_iff_ne, bne_eq_false_iff_eq, Bool.not_eq_true', Bool.not_eq_false', Int.ofNat_lt, Int.ofNat_le, Bool.or_eq_false_iff, Bool.and_eq_false_imp, Decidable.not_not, gt_iff_lt, ge_iff_le] at hn) <;> (try (exfalso; omega)) <;> (refine Todo.of ?_)) | (((with_reducible refine dwp_condA ?_ ?_ ?_); · rfl) <;> (refine Todo.of ?_)))) <;> (try (first | (with_reducible rfl) | exact Nat.le_refl _ | exact Int.le_refl _ | assumption | omega))
        refine ⟨(k + 1, R' ++ [(⟨p.1.on, p.1.body ++ [bareS [] s]⟩, p.2)], _), by simp only [cut_some, cut_none, List.map_cons, List.map_nil, get_cons, Nk.get_nil, Nat.reduceEqDiff, ↓reduceIte, Nat.succ_ne_self, DV.cut, DV.inB, DObj.cut, List.take_nil, List.take_zero, if_true, Nat.zero_ne_one, Nat.one_ne_zero, DV.inBL, Bool.and_true, Bool.true_and, reduceCtorEq, Nat.zero_lt_one, decide_true, decide_false, Nat.reduceLT, List.take_succ_cons, List.length_append, List.length_cons, List.length_nil, Nat.zero_add]; rfl, ⟨hlt, by simp at hR ⊢; omega, ?_, ?_, ?_⟩, by simp only; omega⟩
        · refine hq.same ⟨p.1.on, p.1.body ++ [bareS [] s]⟩ _ _ ?_ _ ?_
          · simp only [rowR, List.length_append, List.length_cons, List.length_nil, Nat.zero_add]
          · simp only [List.map_append, List.map_cons, List.map_nil, cStmt, bareS]
        · rw [t1, List.foldl_append, ← hf, List.map_append, List.map_append, List.foldl_cons, List.foldl_nil]
          exact (fnB_same _ _ _ (onEq_iff.1 hoe)).symm
        · intro q hq'
          rcases List.mem_append.1 hq' with hq' | hq'
          · have := hall q (by simp [hq'])
            exact ⟨by simp only; omega, this.2⟩
          · simp only [List.mem_singleton] at hq'
            subst hq'
            exact ⟨by simp; exact hpa.1, hpa.2⟩
      | false =>
        (have hcondQ := Bool.and_self; refine Todo.of ?_); (repeat' (first | ((with_reducible refine Todo.to ?_); (repeat (first | (simp only [↓rP, rT, rU, eI, eU, eB, eS, eBs, eL, eA, buildCells, sepsD, sepB, hdl, dvalX, DOp.kind, dval, frameFrom, dBin, dInt, dStr, dBeq, dUn, dLoad, cellsAt, retV, retL, DR.val, fzT, fzVs, fzV, fz1, DV.immB, IntKind.bits, dCallP, viewVs, viewV, view1, capVL, capV, viewL, noMemV, noMem, elemsOf, dAppend, dAppz, dStore, DV.one, alive, freezeAt, fzLL, fzL, bRow, bU, cellsOf, setFrom, DV.isU, lenMax, lenCap, Nat.reduceEqDiff, Nat.reduceAdd, ↓reduceIte, reduceCtorEq, Nat.reduceSub, Int.reduceToNat, Int.reducePow, Nat.reducePow, Int.reduceLE, Int.reduceLT, Nat.reduceLeDiff, Nat.reduceLT, Int.reduceBEq, Int.reduceBNe, Int.reduceEq, Int.reduceNe, Int.reduceAdd, Int.reduceSub, Int.reduceMul, Int.reduceNeg, Int.reduceTDiv, Int.reduceTMod, Int.reduceMod, Int.reduceDiv, Nat.reduceMul, forall_const, implies_true, d_noriaref25_Blocks, hlt, hrow, wk, q0, q1, g0, g1, ge, ge1, ge2, se, s1, gp, n1, w1, pos, r1, r2, eo, hoe, List.append_assoc, List.length_map , hcondQ]) | (simp (disch := omega) only [i64_id, u64_id, u8_id, getD_map'])))) | ((with_reducible refine And.intro ?_ ?_); · first | trivial | omega | (simp; done) | (simp; omega)) | ((first | ((with_reducible refine dwp_condI (t := ?_) ?_ (fun hcQ => ?_) (fun hcQ => ?_)); rotate_left; · rfl) | ((with_reducible refine dops_guardI (t := ?_) ?_ (fun hcQ => ?_) (fun hcQ => ?_)); rotate_left; · rfl)) <;> (have hn := hcQ; have hcondQ := hcQ) <;> (try simp only [decide_eq_true_eq, decide_eq_false_iff_not, beq_iff_eq, bne_iff_ne, ne_eq, Bool.and_eq_true, Bool.or_eq_true, Bool.not_eq_true, Bool.not_eq_false, beq_eq_false_iff_ne, bne_eq_false_iff_eq, Bool.not_eq_true', Bool.not_eq_false', Int.ofNat_lt, Int.ofNat_le, Bool.or_eq_false_iff, Bool.and_eq_false_imp, Decidable.not_not, gt_iff_lt, ge_iff_le] at hn) <;> (try (exfalso; omega)) <;> (refine Todo.of ?_)) | (((with_reducible refine dwp_condA ?_ ?_ ?_); · rfl) <;> (refine Todo.of ?_)))) <;> (try (first | (with_reducible rfl) | exact Nat.le_refl _ | exact Int.le_refl _ | assumption | omega))
        refine ⟨(k + 1, (R' ++ [p]) ++ [(⟨s.q.on, [bareS [] s]⟩, hp.length + 1)], _), by simp only [cut_some, cut_none, List.map_cons, List.map_nil, get_cons, Nk.get_nil, Nat.reduceEqDiff, ↓reduceIte, Nat.succ_ne_self, DV.cut, DV.inB, DObj.cut, List.take_nil, List.take_zero, if_true, Nat.zero_ne_one, Nat.one_ne_zero, DV.inBL, Bool.and_true, Bool.true_and, reduceCtorEq, Nat.zero_lt_one, decide_true, decide_false, Nat.reduceLT, List.take_succ_cons, List.length_append, List.length_cons, List.length_nil, Nat.zero_add]; rfl, ⟨hlt, by simp at hR ⊢; omega, ?_, ?_, ?_⟩, by simp only; omega⟩
        · exact hq.new ⟨s.q.on, [bareS [] s]⟩ _ _ _ rfl _ rfl
        · rw [t1, List.foldl_append, ← hf, List.map_append, List.foldl_cons, List.foldl_nil]
          refine (fnB_new _ _ fun b hb => ?_).symm
          rw [List.map_append, List.map_singleton, List.getLast?_append, List.getLast?_singleton] at hb
          simp only [Option.some_or, Option.some.injEq] at hb
          subst hb
          exact hoe
        · intro q hq'
          rcases List.mem_append.1 hq' with hq' | hq'
          · have := hall q hq'
            exact ⟨by simp only; omega, this.2⟩
          · simp only [List.mem_singleton] at hq'
            subst hq'
            exact ⟨by simp, ws⟩
  · have ek : k = c.body.length := by omega
    subst ek
    rw [List.take_length, ← blksF_fold] at hf
    by_cases hn : R = []
    · subst hn
      have q1 : hp[1]? = some ⟨.imm, 2, []⟩ := q1
      rw [← hf]
      (have hcondQ := Bool.and_self; refine Todo.of ?_); (repeat' (first | ((with_reducible refine Todo.to ?_); (repeat (first | (simp only [↓rP, rT, rU, eI, eU, eB, eS, eBs, eL, eA, buildCells, sepsD, sepB, hdl, dvalX, DOp.kind, dval, frameFrom, dBin, dInt, dStr, dBeq, dUn, dLoad, cellsAt, retV, retL, DR.val, fzT, fzVs, fzV, fz1, DV.immB, IntKind.bits, dCallP, viewVs, viewV, view1, capVL, capV, viewL, noMemV, noMem, elemsOf, dAppend, dAppz, dStore, DV.one, alive, freezeAt, fzLL, fzL, bRow, bU, cellsOf, setFrom, DV.isU, lenMax, lenCap, Nat.reduceEqDiff, Nat.reduceAdd, ↓reduceIte, reduceCtorEq, Nat.reduceSub, Int.reduceToNat, Int.reducePow, Nat.reducePow, Int.reduceLE, Int.reduceLT, Nat.reduceLeDiff, Nat.reduceLT, Int.reduceBEq, Int.reduceBNe, Int.reduceEq, Int.reduceNe, Int.reduceAdd, Int.reduceSub, Int.reduceMul, Int.reduceNeg, Int.reduceTDiv, Int.reduceTMod, Int.reduceMod, Int.reduceDiv, Nat.reduceMul, forall_const, implies_true, d_noriaref25_Blocks, hlt, q0, q1, endH_ret, endP_ret, List.length_map , hcondQ]) | (simp (disch := omega) only [i64_id, u64_id, u8_id, getD_map'])))) | ((with_reducible refine And.intro ?_ ?_); · first | trivial | omega | (simp; done) | (simp; omega)) | ((first | ((with_reducible refine dwp_condI (t := ?_) ?_ (fun hcQ => ?_) (fun hcQ => ?_)); rotate_left; · rfl) | ((with_reducible refine dops_guardI (t := ?_) ?_ (fun hcQ => ?_) (fun hcQ => ?_)); rotate_left; · rfl)) <;> (have hn := hcQ; have hcondQ := hcQ) <;> (try simp only [decide_eq_true_eq, decide_eq_false_iff_not, beq_iff_eq, bne_iff_ne, ne_eq, Bool.and_eq_true, Bool.or_eq_true, Bool.not_eq_true, Bool.not_eq_false, beq_eq_false_iff_ne, bne_eq_false_iff_eq, Bool.not_eq_true', Bool.not_eq_false', Int.ofNat_lt, Int.ofNat_le, Bool.or_eq_false_iff, Bool.and_eq_false_imp, Decidable.not_not, gt_iff_lt, ge_iff_le] at hn) <;> (try (exfalso; omega)) <;> (refine Todo.of ?_)) | (((with_reducible refine dwp_condA ?_ ?_ ?_); · rfl) <;> (refine Todo.of ?_)))) <;> (try (first | (with_reducible rfl) | exact Nat.le_refl _ | exact Int.le_refl _ | assumption | omega))
    · rw [if_neg hn] at q1
      obtain ⟨f1, f2, f3⟩ := fz_rows R hp fun p hp' => ⟨(hq.at' p hp').1, .imm, .inl rfl, (hq.at' p hp').2⟩
      rw [q1] at f3
      rw [← hf]
      (have hcondQ := Bool.and_self; refine Todo.of ?_); (repeat' (first | ((with_reducible refine Todo.to ?_); (repeat (first | (simp only [↓rP, rT, rU, eI, eU, eB, eS, eBs, eL, eA, buildCells, sepsD, sepB, hdl, dvalX, DOp.kind, dval, frameFrom, dBin, dInt, dStr, dBeq, dUn, dLoad, cellsAt, retV, retL, DR.val, fzT, fzVs, fzV, fz1, DV.immB, IntKind.bits, dCallP, viewVs, viewV, view1, capVL, capV, viewL, noMemV, noMem, elemsOf, dAppend, dAppz, dStore, DV.one, alive, freezeAt, fzLL, fzL, bRow, bU, cellsOf, setFrom, DV.isU, lenMax, lenCap, Nat.reduceEqDiff, Nat.reduceAdd, ↓reduceIte, reduceCtorEq, Nat.reduceSub, Int.reduceToNat, Int.reducePow, Nat.reducePow, Int.reduceLE, Int.reduceLT, Nat.reduceLeDiff, Nat.reduceLT, Int.reduceBEq, Int.reduceBNe, Int.reduceEq, Int.reduceNe, Int.reduceAdd, Int.reduceSub, Int.reduceMul, Int.reduceNeg, Int.reduceTDiv, Int.reduceTMod, Int.reduceMod, Int.reduceDiv, Nat.reduceMul, forall_const, implies_true, d_noriaref25_Blocks, hlt, q0, q1, f1, f2, f3, List.length_map , hcondQ]) | (simp (disch := omega) only [i64_id, u64_id, u8_id, getD_map'])))) | ((with_reducible refine And.intro ?_ ?_); · first | trivial | omega | (simp; done) | (simp; omega)) | ((first | ((with_reducible refine dwp_condI (t := ?_) ?_ (fun hcQ => ?_) (fun hcQ => ?_)); rotate_left; · rfl) | ((with_reducible refine dops_guardI (t := ?_) ?_ (fun hcQ => ?_) (fun hcQ => ?_)); rotate_left; · rfl)) <;> (have hn := hcQ; have hcondQ := hcQ) <;> (try simp only [decide_eq_true_eq, decide_eq_false_iff_not, beq_iff_eq, bne_iff_ne, ne_eq, Bool.and_eq_true, Bool.or_eq_true, Bool.not_eq_true, Bool.not_eq_false, beq_eq_false_iff_ne, bne_eq_false_iff_eq, Bool.not_eq_true', Bool.not_eq_false', Int.ofNat_lt, Int.ofNat_le, Bool.or_eq_false_iff, Bool.and_eq_false_imp, Decidable.not_not, gt_iff_lt, ge_iff_le] at hn) <;> (try (exfalso; omega)) <;> (refine Todo.of ?_)) | (((with_reducible refine dwp_condA ?_ ?_ ?_); · rfl) <;> (refine Todo.of ?_)))) <;> (try (first | (with_reducible rfl) | exact Nat.le_refl _ | exact Int.le_refl _ | assumption | omega))
      have : 0 < R.length := List.length_pos_iff.2 hn
      refine ⟨⟨this, fun e he => ?_⟩, by rw [List.map_map]; rfl⟩
      obtain ⟨q, _, rfl⟩ := List.mem_map.1 he
      rfl
end Go.Proofs.Ytonpjojccjijfaa
