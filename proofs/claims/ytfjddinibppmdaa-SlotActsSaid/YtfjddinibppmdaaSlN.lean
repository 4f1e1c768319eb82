/- One call, of both. -/
import Derived.Test.YtfjddinibppmdaaSlM
set_option linter.all false
set_option maxRecDepth 20000
namespace Go.Proofs.Ytfjddinibppmdaa
open Go.Nk

structure okA (a : As) : Prop where
  h : okV a.h
  o : okV a.o
  ho : a.o.there = true → a.h.there = true
def actS (n : Nat) (q : Qs) (x : Img) (v : List Int) (d : Int) (hp : List DObj) : List DObj :=
  if d = 0 then Sload n q x v hp else if d = 1 then Skeep n q v hp else if d = 2 then Sstage n q x hp else if d = 3 then Swrite n q v hp else if d = 4 then Scommit n q hp else Sdrop n q hp
def actQ (q : Qs) (x : Img) (v : List Int) (d : Int) (L : Nat) : Qs :=
  if d = 0 then SloadQ q x v L else if d = 1 then SkeepQ q v L else if d = 2 then SstageQ q x L else if d = 3 then SwriteQ q v else if d = 4 then ScommitQ q else dropQ q
def actA (a : As) (x : Img) (v : List Int) (d : Int) : As :=
  if d = 0 then loadA a x v else if d = 1 then keepA a v else if d = 2 then stageA a x else if d = 3 then writeA a v else if d = 4 then commitA a else dropA a
theorem act_step {hp : List DObj} {n : Nat} {q : Qs} (h : Rep hp n true q) (x : Img) (v : List Int) (d : Int) : Stp hp n (actS n q x v d hp) (actQ q x v d hp.length) ∧ (actQ q x v d hp.length).as = actA q.as x v d := by
  unfold actS actQ actA
  split
  · exact load_step h x v
  split
  · exact keep_step h v
  split
  · exact stage_step h x
  split
  · exact write_step h v
  split
  · exact commit_step h
  · exact drop_step h
def rAct (y : Nat × Qs × Nat × List Img × Act) (a : List DV) (hp : List DObj) : Prop :=
  a = [.ptr y.1 1 0 0, .ptr y.2.2.1 1 0 0, .sl (y.2.2.2.1.map cImg), .agg (cAct y.2.2.2.2)] ∧ Rep hp y.1 true y.2.1 ∧ hp[y.2.2.1]? = some (oW y.2.1.as)
theorem rAct_u : ∀ x y a hp, rAct x a hp → rAct y a hp → x = y := by
  rintro ⟨n, q, k, l, a⟩ ⟨n', q', k', l', a'⟩ aa hp ⟨rfl, h, _⟩ ⟨e, h', _⟩
  have e' := e
  simp only [List.cons.injEq, DV.ptr.injEq, DV.agg.injEq, and_true] at e
  obtain ⟨rfl, rfl, e1, e2⟩ := e
  simp only at h h'
  have e3 := (Rep.u h h').2
  have e4 : l = l' := inj_Imgs _ _ e1
  have e5 : a = a' := cAct_inj _ _ (by simp only [cAct, List.cons.injEq, and_true]; exact e2)
  rw [e3, e4, e5]
noncomputable def s_act : List DV → List DObj → Res := specG rAct (fun y => (okA y.2.1.as ∧ (imgAt y.2.2.2.1 y.2.2.2.2.i).slots.length ≤ 150 ∧ y.2.2.2.2.v.length ≤ 1200, .bool true))
  (fun y hp => one (actS y.1 y.2.1 (imgAt y.2.2.2.1 y.2.2.2.2.i) y.2.2.2.2.v y.2.2.2.2.d (hp ++ [⟨.loc, 6, [cImg (imgAt y.2.2.2.1 y.2.2.2.2.i)]⟩])) y.2.2.1 (oW (actA y.2.1.as (imgAt y.2.2.2.1 y.2.2.2.2.i) y.2.2.2.2.v y.2.2.2.2.d)))
theorem s_act_at {hp : List DObj} {n k : Nat} {q : Qs} {l : List Img} {a : Act} (h : Rep hp n true q) (hk : hp[k]? = some (oW q.as)) (hv : okA q.as ∧ (imgAt l a.i).slots.length ≤ 150 ∧ a.v.length ≤ 1200) :
    s_act [.ptr n 1 0 0, .ptr k 1 0 0, .sl (l.map cImg), .agg (cAct a)] hp = ⟨True, .bool true, one (actS n q (imgAt l a.i) a.v a.d (hp ++ [⟨.loc, 6, [cImg (imgAt l a.i)]⟩])) k (oW (actA q.as (imgAt l a.i) a.v a.d))⟩ := by
  unfold s_act
  rw [specG_at (x := (n, q, k, l, a)) rAct_u ⟨rfl, h, hk⟩]
  simp only [eq_true hv]
theorem only_set_app {hp t : List DObj} {n : Nat} {o : DObj} : Only (some n) hp ((hp ++ t).set n o) := fun i hi e => by
  rw [List.getElem?_set_ne (fun c => e (congrArg some c)), List.getElem?_append_left hi]
theorem only_app {hp t : List DObj} {n : Nat} : Only (some n) hp (hp ++ t) := fun i hi _ => List.getElem?_append_left hi
theorem only_load {hp : List DObj} {n : Nat} {q : Qs} {x : Img} {v : List Int} : Only (some n) hp (Sload n q x v hp) := by
  unfold Sload; split
  · exact only_set_app
  · exact only_app
theorem only_keep {hp : List DObj} {n : Nat} {q : Qs} {v : List Int} : Only (some n) hp (Skeep n q v hp) := by
  unfold Skeep; split
  · split
    · exact only_set_app
    · exact only_app
  · exact Only_same
theorem only_stage {hp : List DObj} {n : Nat} {q : Qs} {x : Img} : Only (some n) hp (Sstage n q x hp) := by
  unfold Sstage; split
  · exact only_set_app
  · exact Only_same
theorem bb_self (b : Bool) : (b == b) = true := by cases b <;> rfl
set_option maxHeartbeats 2000000 in
theorem ok_act : OkH Try.prog 18 s_act := by
  refine OkH.mkGH (ps := [(12, s_imgAt)]) (hs := [(9, s_Load), (34, s_wLoad), (23, s_Keep), (35, s_wKeep), (11, s_Stage), (36, s_wStage),
      (13, s_Write), (37, s_wWrite), (14, s_Commit), (38, s_wCommit), (15, s_Drop), (39, s_wDrop)])
    ⟨ok_norialaw42_of, trivial⟩ ⟨ok_Load, ok_wLoad, ok_Keep, ok_wKeep, ok_Stage, ok_wStage, ok_Write, ok_wWrite, ok_Commit, ok_wCommit, ok_Drop, ok_wDrop, trivial⟩ m_norialaw42_act (fun x a hp h => by rw [h.1]; rfl) (fun y a hp h hv => ?_)
  obtain ⟨n, q, k, l, a⟩ := y
  obtain ⟨rfl, h, hk⟩ := h
  obtain ⟨ha, hx, hl⟩ := hv
  obtain ⟨d, i, v⟩ := a
  simp only at h hk ha hx hl ⊢
  have ei := s_imgAt_at l i
  generalize imgAt l i = x at ei hx ⊢
  have hn := h.lt
  have nk : k ≠ n := fun c => by
    subst c
    have e := Option.some.inj (hk.symm.trans h.o)
    injection e with _ e2 _
    cases e2
  have r1 : Rep (hp ++ [⟨.loc, 6, [cImg x]⟩]) n true q := h.app
  have k1 : (hp ++ [⟨.loc, 6, [cImg x]⟩])[k]? = some (oW q.as) := get_app hk
  have ne1 : ¬ hp.length = n := by omega
  have g1 : ∀ X, (hp ++ [X])[hp.length]? = some X := fun X => end_get
  have oxl : okXL x v := ⟨hx, hl⟩
  have kk : ∀ {hp' q'}, Stp (hp ++ [⟨.loc, 6, [cImg x]⟩]) n hp' q' → hp'[k]? = some (oW q.as) := fun s => s.k k _ nk k1 rfl
  
  unfold actS actA
  by_cases c0 : d = 0
  · subst c0
    simp only [if_true]
    have e1 := s_Load_at (x := x) (l := v) r1
    rw [eq_true oxl, show (if misB x v = true then one ((hp ++ [⟨.loc, 6, [cImg x]⟩]) ++ jk x v _) n (oQ true (loadQ q x v _)) else _) = Sload n q x v (hp ++ [⟨.loc, 6, [cImg x]⟩]) from rfl] at e1
    have e2 := s_wLoad_at (x := x) (l := v) (kk (load_step r1 x v).1)
    rw [eq_true oxl] at e2
    have eo : Only (some n) (hp ++ [⟨.loc, 6, [cImg x]⟩]) (Sload n q x v (hp ++ [⟨.loc, 6, [cImg x]⟩])) := only_load
    generalize Sload n q x v _ = hp2 at e1 e2 eo ⊢
    generalize misB x v = b at e1 e2
    have hb := bb_self b
    (have hcondQ := Bool.and_self; refine Todo.of ?_); (repeat' (first | ((with_reducible refine Todo.to ?_); (repeat (first | (simp only [↓rP, rT, rU, eI, eU, eB, eS, eBs, eL, eA, buildCells, sepsD, sepB, hdl, dvalX, DOp.kind, dval, frameFrom, dBin, dInt, dStr, dBeq, dUn, dLoad, cellsAt, retV, retL, DR.val, fzT, fzVs, fzV, fz1, DV.immB, IntKind.bits, dCallP, viewVs, viewV, view1, capVL, capV, viewL, noMemV, noMem, elemsOf, dAppend, dAppz, dStore, DV.one, alive, freezeAt, fzLL, fzL, bRow, bU, cellsOf, setFrom, DV.isU, lenMax, lenCap, Nat.reduceEqDiff, Nat.reduceAdd, ↓reduceIte, reduceCtorEq, Nat.reduceSub, Int.reduceToNat, Int.reducePow, Nat.reducePow, Int.reduceLE, Int.reduceLT, Nat.reduceLeDiff, Nat.reduceLT, Int.reduceBEq, Int.reduceBNe, Int.reduceEq, Int.reduceNe, Int.reduceAdd, Int.reduceSub, Int.reduceMul, Int.reduceNeg, Int.reduceTDiv, Int.reduceTMod, Int.reduceMod, Int.reduceDiv, Nat.reduceMul, forall_const, implies_true, d_norialaw42_act, s_imgAt_at, eActs, eEns, eIls, eImg, eImgs, ePrt, ePrts, eRows, eSs, eTy, eVn, eY, sls_len, ils_len, ils_rowsT, sls_rowsT, sls_tk0, ils_tk0, ei, e1, e2, eo, hb, ne1, end_get, end_set, endH_normal, endH_ret , hcondQ]) | (simp (disch := omega) only [i64_id, u64_id, u8_id, getD_map'])))) | ((with_reducible refine And.intro ?_ ?_); · first | trivial | omega | (simp; done) | (simp; omega)) | ((first | ((with_reducible refine dwp_condI (t := ?_) ?_ (fun hcQ => ?_) (fun hcQ => ?_)); rotate_left; · rfl) | ((with_reducible refine dops_guardI (t := ?_) ?_ (fun hcQ => ?_) (fun hcQ => ?_)); rotate_left; · rfl)) <;> (have hn := hcQ; have hcondQ := hcQ) <;> (try simp only [decide_eq_true_eq, decide_eq_false_iff_not, beq_iff_eq, bne_iff_ne, ne_eq, Bool.and_eq_true, Bool.or_eq_true, Bool.not_eq_true, Bool.not_eq_false, beq_eq_false_iff_ne, bne_eq_false_iff_eq, Bool.not_eq_true', Bool.not_eq_false', Int.ofNat_lt, Int.ofNat_le, Bool.or_eq_false_iff, Bool.and_eq_false_imp, Decidable.not_not, gt_iff_lt, ge_iff_le] at hn) <;> (try (exfalso; omega)) <;> (refine Todo.of ?_)) | (((with_reducible refine dwp_condA ?_ ?_ ?_); · rfl) <;> (refine Todo.of ?_)))) <;> (try (first | (with_reducible rfl) | exact Nat.le_refl _ | exact Int.le_refl _ | assumption | omega))
  have d0 : (d == 0) = false := by simp [c0]
  simp only [c0, if_false]
  by_cases c1 : d = 1
  · subst c1
    simp only [if_true]
    have e1 := s_Keep_at (l := v) r1
    rw [eq_true (show q.he.there = true → okXL q.he.x v from fun _ => ⟨ha.h.1, hl⟩), show (if q.he.there = true then (if misB q.he.x v = true then one ((hp ++ [⟨.loc, 6, [cImg x]⟩]) ++ jk q.he.x v _) n (oQ true (keepQ q v _)) else _) else _) = Skeep n q v (hp ++ [⟨.loc, 6, [cImg x]⟩]) from rfl] at e1
    have e2 := s_wKeep_at (l := v) (kk (keep_step r1 v).1)
    rw [eq_true (show q.as.h.there = true → okXL q.as.h.x v from fun _ => ⟨ha.h.1, hl⟩), show (q.as.h.there && misB q.as.h.x v) = (q.he.there && misB q.he.x v) from rfl] at e2
    have eo : Only (some n) (hp ++ [⟨.loc, 6, [cImg x]⟩]) (Skeep n q v (hp ++ [⟨.loc, 6, [cImg x]⟩])) := only_keep
    generalize Skeep n q v _ = hp2 at e1 e2 eo ⊢
    generalize (q.he.there && misB q.he.x v) = b at e1 e2
    have hb := bb_self b
    (have hcondQ := Bool.and_self; refine Todo.of ?_); (repeat' (first | ((with_reducible refine Todo.to ?_); (repeat (first | (simp only [↓rP, rT, rU, eI, eU, eB, eS, eBs, eL, eA, buildCells, sepsD, sepB, hdl, dvalX, DOp.kind, dval, frameFrom, dBin, dInt, dStr, dBeq, dUn, dLoad, cellsAt, retV, retL, DR.val, fzT, fzVs, fzV, fz1, DV.immB, IntKind.bits, dCallP, viewVs, viewV, view1, capVL, capV, viewL, noMemV, noMem, elemsOf, dAppend, dAppz, dStore, DV.one, alive, freezeAt, fzLL, fzL, bRow, bU, cellsOf, setFrom, DV.isU, lenMax, lenCap, Nat.reduceEqDiff, Nat.reduceAdd, ↓reduceIte, reduceCtorEq, Nat.reduceSub, Int.reduceToNat, Int.reducePow, Nat.reducePow, Int.reduceLE, Int.reduceLT, Nat.reduceLeDiff, Nat.reduceLT, Int.reduceBEq, Int.reduceBNe, Int.reduceEq, Int.reduceNe, Int.reduceAdd, Int.reduceSub, Int.reduceMul, Int.reduceNeg, Int.reduceTDiv, Int.reduceTMod, Int.reduceMod, Int.reduceDiv, Nat.reduceMul, forall_const, implies_true, d_norialaw42_act, s_imgAt_at, eActs, eEns, eIls, eImg, eImgs, ePrt, ePrts, eRows, eSs, eTy, eVn, eY, sls_len, ils_len, ils_rowsT, sls_rowsT, sls_tk0, ils_tk0, ei, e1, e2, eo, hb, ne1, end_get, end_set, endH_normal, endH_ret , hcondQ]) | (simp (disch := omega) only [i64_id, u64_id, u8_id, getD_map'])))) | ((with_reducible refine And.intro ?_ ?_); · first | trivial | omega | (simp; done) | (simp; omega)) | ((first | ((with_reducible refine dwp_condI (t := ?_) ?_ (fun hcQ => ?_) (fun hcQ => ?_)); rotate_left; · rfl) | ((with_reducible refine dops_guardI (t := ?_) ?_ (fun hcQ => ?_) (fun hcQ => ?_)); rotate_left; · rfl)) <;> (have hn := hcQ; have hcondQ := hcQ) <;> (try simp only [decide_eq_true_eq, decide_eq_false_iff_not, beq_iff_eq, bne_iff_ne, ne_eq, Bool.and_eq_true, Bool.or_eq_true, Bool.not_eq_true, Bool.not_eq_false, beq_eq_false_iff_ne, bne_eq_false_iff_eq, Bool.not_eq_true', Bool.not_eq_false', Int.ofNat_lt, Int.ofNat_le, Bool.or_eq_false_iff, Bool.and_eq_false_imp, Decidable.not_not, gt_iff_lt, ge_iff_le] at hn) <;> (try (exfalso; omega)) <;> (refine Todo.of ?_)) | (((with_reducible refine dwp_condA ?_ ?_ ?_); · rfl) <;> (refine Todo.of ?_)))) <;> (try (first | (with_reducible rfl) | exact Nat.le_refl _ | exact Int.le_refl _ | assumption | omega))
  have d1 : (d == 1) = false := by simp [c1]
  simp only [c1, if_false]
  by_cases c2 : d = 2
  · subst c2
    simp only [if_true]
    have e1 := s_Stage_at (x := x) r1
    rw [show (if q.he.there = true then one ((hp ++ [⟨.loc, 6, [cImg x]⟩]) ++ [oJA x [] _, oSt []]) n (oQ true (stageQ q x _)) else _) = Sstage n q x (hp ++ [⟨.loc, 6, [cImg x]⟩]) from rfl] at e1
    have e2 := s_wStage_at (x := x) (kk (stage_step r1 x).1)
    rw [show q.as.h.there = q.he.there from rfl] at e2
    have eo : Only (some n) (hp ++ [⟨.loc, 6, [cImg x]⟩]) (Sstage n q x (hp ++ [⟨.loc, 6, [cImg x]⟩])) := only_stage
    generalize Sstage n q x _ = hp2 at e1 e2 eo ⊢
    generalize q.he.there = b at e1 e2
    have hb := bb_self b
    (have hcondQ := Bool.and_self; refine Todo.of ?_); (repeat' (first | ((with_reducible refine Todo.to ?_); (repeat (first | (simp only [↓rP, rT, rU, eI, eU, eB, eS, eBs, eL, eA, buildCells, sepsD, sepB, hdl, dvalX, DOp.kind, dval, frameFrom, dBin, dInt, dStr, dBeq, dUn, dLoad, cellsAt, retV, retL, DR.val, fzT, fzVs, fzV, fz1, DV.immB, IntKind.bits, dCallP, viewVs, viewV, view1, capVL, capV, viewL, noMemV, noMem, elemsOf, dAppend, dAppz, dStore, DV.one, alive, freezeAt, fzLL, fzL, bRow, bU, cellsOf, setFrom, DV.isU, lenMax, lenCap, Nat.reduceEqDiff, Nat.reduceAdd, ↓reduceIte, reduceCtorEq, Nat.reduceSub, Int.reduceToNat, Int.reducePow, Nat.reducePow, Int.reduceLE, Int.reduceLT, Nat.reduceLeDiff, Nat.reduceLT, Int.reduceBEq, Int.reduceBNe, Int.reduceEq, Int.reduceNe, Int.reduceAdd, Int.reduceSub, Int.reduceMul, Int.reduceNeg, Int.reduceTDiv, Int.reduceTMod, Int.reduceMod, Int.reduceDiv, Nat.reduceMul, forall_const, implies_true, d_norialaw42_act, s_imgAt_at, eActs, eEns, eIls, eImg, eImgs, ePrt, ePrts, eRows, eSs, eTy, eVn, eY, sls_len, ils_len, ils_rowsT, sls_rowsT, sls_tk0, ils_tk0, ei, e1, e2, eo, hb, ne1, end_get, end_set, endH_normal, endH_ret , hcondQ]) | (simp (disch := omega) only [i64_id, u64_id, u8_id, getD_map'])))) | ((with_reducible refine And.intro ?_ ?_); · first | trivial | omega | (simp; done) | (simp; omega)) | ((first | ((with_reducible refine dwp_condI (t := ?_) ?_ (fun hcQ => ?_) (fun hcQ => ?_)); rotate_left; · rfl) | ((with_reducible refine dops_guardI (t := ?_) ?_ (fun hcQ => ?_) (fun hcQ => ?_)); rotate_left; · rfl)) <;> (have hn := hcQ; have hcondQ := hcQ) <;> (try simp only [decide_eq_true_eq, decide_eq_false_iff_not, beq_iff_eq, bne_iff_ne, ne_eq, Bool.and_eq_true, Bool.or_eq_true, Bool.not_eq_true, Bool.not_eq_false, beq_eq_false_iff_ne, bne_eq_false_iff_eq, Bool.not_eq_true', Bool.not_eq_false', Int.ofNat_lt, Int.ofNat_le, Bool.or_eq_false_iff, Bool.and_eq_false_imp, Decidable.not_not, gt_iff_lt, ge_iff_le] at hn) <;> (try (exfalso; omega)) <;> (refine Todo.of ?_)) | (((with_reducible refine dwp_condA ?_ ?_ ?_); · rfl) <;> (refine Todo.of ?_)))) <;> (try (first | (with_reducible rfl) | exact Nat.le_refl _ | exact Int.le_refl _ | assumption | omega))
  have d2 : (d == 2) = false := by simp [c2]
  simp only [c2, if_false]
  by_cases c3 : d = 3
  · subst c3
    simp only [if_true]
    have e1 := s_Write_at (l := v) r1
    rw [eq_true (show q.ot.there = true → okV q.ot ∧ v.length ≤ 1200 from fun _ => ⟨ha.o, hl⟩), show (if (q.ot.there && decide ((v.length : Int) ≤ missF q.ot)) = true then one ((hp ++ [(⟨.loc, 6, [cImg x]⟩ : DObj)]).set (otH q) (oSt (q.ot.st ++ v))) n (oQ true (writeQ q v)) else hp ++ [(⟨.loc, 6, [cImg x]⟩ : DObj)]) = Swrite n q v (hp ++ [⟨.loc, 6, [cImg x]⟩]) from rfl] at e1
    have e2 := s_wWrite_at (l := v) (kk (write_step r1 v).1)
    rw [eq_true (show q.as.o.there = true → okV q.as.o ∧ v.length ≤ 1200 from fun _ => ⟨ha.o, hl⟩), show wrOk q.as v = (q.ot.there && decide ((v.length : Int) ≤ missF q.ot)) from rfl] at e2
    generalize Swrite n q v _ = hp2 at e1 e2 ⊢
    generalize (q.ot.there && decide ((v.length : Int) ≤ missF q.ot)) = b at e1 e2
    have hb := bb_self b
    (have hcondQ := Bool.and_self; refine Todo.of ?_); (repeat' (first | ((with_reducible refine Todo.to ?_); (repeat (first | (simp only [↓rP, rT, rU, eI, eU, eB, eS, eBs, eL, eA, buildCells, sepsD, sepB, hdl, dvalX, DOp.kind, dval, frameFrom, dBin, dInt, dStr, dBeq, dUn, dLoad, cellsAt, retV, retL, DR.val, fzT, fzVs, fzV, fz1, DV.immB, IntKind.bits, dCallP, viewVs, viewV, view1, capVL, capV, viewL, noMemV, noMem, elemsOf, dAppend, dAppz, dStore, DV.one, alive, freezeAt, fzLL, fzL, bRow, bU, cellsOf, setFrom, DV.isU, lenMax, lenCap, Nat.reduceEqDiff, Nat.reduceAdd, ↓reduceIte, reduceCtorEq, Nat.reduceSub, Int.reduceToNat, Int.reducePow, Nat.reducePow, Int.reduceLE, Int.reduceLT, Nat.reduceLeDiff, Nat.reduceLT, Int.reduceBEq, Int.reduceBNe, Int.reduceEq, Int.reduceNe, Int.reduceAdd, Int.reduceSub, Int.reduceMul, Int.reduceNeg, Int.reduceTDiv, Int.reduceTMod, Int.reduceMod, Int.reduceDiv, Nat.reduceMul, forall_const, implies_true, d_norialaw42_act, s_imgAt_at, eActs, eEns, eIls, eImg, eImgs, ePrt, ePrts, eRows, eSs, eTy, eVn, eY, sls_len, ils_len, ils_rowsT, sls_rowsT, sls_tk0, ils_tk0, ei, e1, e2, hb, ne1, end_get, end_set, endH_normal, endH_ret , hcondQ]) | (simp (disch := omega) only [i64_id, u64_id, u8_id, getD_map'])))) | ((with_reducible refine And.intro ?_ ?_); · first | trivial | omega | (simp; done) | (simp; omega)) | ((first | ((with_reducible refine dwp_condI (t := ?_) ?_ (fun hcQ => ?_) (fun hcQ => ?_)); rotate_left; · rfl) | ((with_reducible refine dops_guardI (t := ?_) ?_ (fun hcQ => ?_) (fun hcQ => ?_)); rotate_left; · rfl)) <;> (have hn := hcQ; have hcondQ := hcQ) <;> (try simp only [decide_eq_true_eq, decide_eq_false_iff_not, beq_iff_eq, bne_iff_ne, ne_eq, Bool.and_eq_true, Bool.or_eq_true, Bool.not_eq_true, Bool.not_eq_false, beq_eq_false_iff_ne, bne_eq_false_iff_eq, Bool.not_eq_true', Bool.not_eq_false', Int.ofNat_lt, Int.ofNat_le, Bool.or_eq_false_iff, Bool.and_eq_false_imp, Decidable.not_not, gt_iff_lt, ge_iff_le] at hn) <;> (try (exfalso; omega)) <;> (refine Todo.of ?_)) | (((with_reducible refine dwp_condA ?_ ?_ ?_); · rfl) <;> (refine Todo.of ?_)))) <;> (try (first | (with_reducible rfl) | exact Nat.le_refl _ | exact Int.le_refl _ | assumption | omega))
  have d3 : (d == 3) = false := by simp [c3]
  simp only [c3, if_false]
  by_cases c4 : d = 4
  · subst c4
    simp only [if_true]
    have e1 := s_Commit_at r1
    rw [eq_true (show q.ot.there = true → okV q.ot from fun _ => ha.o), show (if (q.ot.there && missF q.ot == 0) = true then one (hp ++ [⟨.loc, 6, [cImg x]⟩]) n (oQ true (cmtQ q)) else hp ++ [(⟨.loc, 6, [cImg x]⟩ : DObj)]) = Scommit n q (hp ++ [⟨.loc, 6, [cImg x]⟩]) from rfl] at e1
    have e2 := s_wCommit_at (kk (commit_step r1).1)
    rw [eq_true (show q.as.o.there = true → okV q.as.o ∧ q.as.h.there = true from fun t => ⟨ha.o, ha.ho t⟩), show cmOk q.as = (q.ot.there && missF q.ot == 0) from rfl] at e2
    generalize Scommit n q _ = hp2 at e1 e2 ⊢
    generalize (q.ot.there && missF q.ot == 0) = b at e1 e2
    have hb := bb_self b
    (have hcondQ := Bool.and_self; refine Todo.of ?_); (repeat' (first | ((with_reducible refine Todo.to ?_); (repeat (first | (simp only [↓rP, rT, rU, eI, eU, eB, eS, eBs, eL, eA, buildCells, sepsD, sepB, hdl, dvalX, DOp.kind, dval, frameFrom, dBin, dInt, dStr, dBeq, dUn, dLoad, cellsAt, retV, retL, DR.val, fzT, fzVs, fzV, fz1, DV.immB, IntKind.bits, dCallP, viewVs, viewV, view1, capVL, capV, viewL, noMemV, noMem, elemsOf, dAppend, dAppz, dStore, DV.one, alive, freezeAt, fzLL, fzL, bRow, bU, cellsOf, setFrom, DV.isU, lenMax, lenCap, Nat.reduceEqDiff, Nat.reduceAdd, ↓reduceIte, reduceCtorEq, Nat.reduceSub, Int.reduceToNat, Int.reducePow, Nat.reducePow, Int.reduceLE, Int.reduceLT, Nat.reduceLeDiff, Nat.reduceLT, Int.reduceBEq, Int.reduceBNe, Int.reduceEq, Int.reduceNe, Int.reduceAdd, Int.reduceSub, Int.reduceMul, Int.reduceNeg, Int.reduceTDiv, Int.reduceTMod, Int.reduceMod, Int.reduceDiv, Nat.reduceMul, forall_const, implies_true, d_norialaw42_act, s_imgAt_at, eActs, eEns, eIls, eImg, eImgs, ePrt, ePrts, eRows, eSs, eTy, eVn, eY, sls_len, ils_len, ils_rowsT, sls_rowsT, sls_tk0, ils_tk0, ei, e1, e2, hb, ne1, end_get, end_set, endH_normal, endH_ret , hcondQ]) | (simp (disch := omega) only [i64_id, u64_id, u8_id, getD_map'])))) | ((with_reducible refine And.intro ?_ ?_); · first | trivial | omega | (simp; done) | (simp; omega)) | ((first | ((with_reducible refine dwp_condI (t := ?_) ?_ (fun hcQ => ?_) (fun hcQ => ?_)); rotate_left; · rfl) | ((with_reducible refine dops_guardI (t := ?_) ?_ (fun hcQ => ?_) (fun hcQ => ?_)); rotate_left; · rfl)) <;> (have hn := hcQ; have hcondQ := hcQ) <;> (try simp only [decide_eq_true_eq, decide_eq_false_iff_not, beq_iff_eq, bne_iff_ne, ne_eq, Bool.and_eq_true, Bool.or_eq_true, Bool.not_eq_true, Bool.not_eq_false, beq_eq_false_iff_ne, bne_eq_false_iff_eq, Bool.not_eq_true', Bool.not_eq_false', Int.ofNat_lt, Int.ofNat_le, Bool.or_eq_false_iff, Bool.and_eq_false_imp, Decidable.not_not, gt_iff_lt, ge_iff_le] at hn) <;> (try (exfalso; omega)) <;> (refine Todo.of ?_)) | (((with_reducible refine dwp_condA ?_ ?_ ?_); · rfl) <;> (refine Todo.of ?_)))) <;> (try (first | (with_reducible rfl) | exact Nat.le_refl _ | exact Int.le_refl _ | assumption | omega))
  have d4 : (d == 4) = false := by simp [c4]
  simp only [c4, if_false]
  have e1 := s_Drop_at r1
  rw [show one (hp ++ [⟨.loc, 6, [cImg x]⟩]) n (oQ true (dropQ q)) = Sdrop n q (hp ++ [⟨.loc, 6, [cImg x]⟩]) from rfl] at e1
  have e2 := s_wDrop_at (kk (drop_step r1).1)
  generalize Sdrop n q _ = hp2 at e1 e2 ⊢
  (have hcondQ := Bool.and_self; refine Todo.of ?_); (repeat' (first | ((with_reducible refine Todo.to ?_); (repeat (first | (simp only [↓rP, rT, rU, eI, eU, eB, eS, eBs, eL, eA, buildCells, sepsD, sepB, hdl, dvalX, DOp.kind, dval, frameFrom, dBin, dInt, dStr, dBeq, dUn, dLoad, cellsAt, retV, retL, DR.val, fzT, fzVs, fzV, fz1, DV.immB, IntKind.bits, dCallP, viewVs, viewV, view1, capVL, capV, viewL, noMemV, noMem, elemsOf, dAppend, dAppz, dStore, DV.one, alive, freezeAt, fzLL, fzL, bRow, bU, cellsOf, setFrom, DV.isU, lenMax, lenCap, Nat.reduceEqDiff, Nat.reduceAdd, ↓reduceIte, reduceCtorEq, Nat.reduceSub, Int.reduceToNat, Int.reducePow, Nat.reducePow, Int.reduceLE, Int.reduceLT, Nat.reduceLeDiff, Nat.reduceLT, Int.reduceBEq, Int.reduceBNe, Int.reduceEq, Int.reduceNe, Int.reduceAdd, Int.reduceSub, Int.reduceMul, Int.reduceNeg, Int.reduceTDiv, Int.reduceTMod, Int.reduceMod, Int.reduceDiv, Nat.reduceMul, forall_const, implies_true, d_norialaw42_act, s_imgAt_at, eActs, eEns, eIls, eImg, eImgs, ePrt, ePrts, eRows, eSs, eTy, eVn, eY, sls_len, ils_len, ils_rowsT, sls_rowsT, sls_tk0, ils_tk0, ei, e1, e2, d0, d1, d2, d3, d4, ne1, end_get, end_set, endH_normal, endH_ret , hcondQ]) | (simp (disch := omega) only [i64_id, u64_id, u8_id, getD_map'])))) | ((with_reducible refine And.intro ?_ ?_); · first | trivial | omega | (simp; done) | (simp; omega)) | ((first | ((with_reducible refine dwp_condI (t := ?_) ?_ (fun hcQ => ?_) (fun hcQ => ?_)); rotate_left; · rfl) | ((with_reducible refine dops_guardI (t := ?_) ?_ (fun hcQ => ?_) (fun hcQ => ?_)); rotate_left; · rfl)) <;> (have hn := hcQ; have hcondQ := hcQ) <;> (try simp only [decide_eq_true_eq, decide_eq_false_iff_not, beq_iff_eq, bne_iff_ne, ne_eq, Bool.and_eq_true, Bool.or_eq_true, Bool.not_eq_true, Bool.not_eq_false, beq_eq_false_iff_ne, bne_eq_false_iff_eq, Bool.not_eq_true', Bool.not_eq_false', Int.ofNat_lt, Int.ofNat_le, Bool.or_eq_false_iff, Bool.and_eq_false_imp, Decidable.not_not, gt_iff_lt, ge_iff_le] at hn) <;> (try (exfalso; omega)) <;> (refine Todo.of ?_)) | (((with_reducible refine dwp_condA ?_ ?_ ?_); · rfl) <;> (refine Todo.of ?_)))) <;> (try (first | (with_reducible rfl) | exact Nat.le_refl _ | exact Int.le_refl _ | assumption | omega))
end Go.Proofs.Ytfjddinibppmdaa
