/- How much a Flow keeps, and how many instances it has. -/
import Derived.Test.YtlbemkkfgijljaaMsB
set_option linter.all false
set_option maxRecDepth 20000
namespace Go.Proofs.Ytlbemkkfgijljaa
open Go.Nk

@[reducible] def cP2 (x : Int × Int) : List DV := [.int .i64 x.1, .int .i64 x.2]
def at2 (tab : List (Int × Int)) (q : Pl) : Int × Int := tab.getD q.node.toNat (0, 0)
def sum1 (tab : List (Int × Int)) : List Pl → Int
  | [] => 0
  | q :: r => (at2 tab q).1 + sum1 tab r
def sum2 (tab : List (Int × Int)) : List Pl → Int
  | [] => 0
  | q :: r => (at2 tab q).2 + sum2 tab r
/-- What a Flow counts, over what those ahead of it count. -/
def rowOf (tab : List (Int × Int)) (i : Nat) (f : Fl) : Int × Int :=
  (min ((f.eqs.filter fbyQ).length + sum1 tab (f.eqs.filter (callQ i))) 1000, min (1 + sum2 tab (f.eqs.filter (callQ i))) 1000)
def tabs (l : Fls) : Nat → List (Int × Int)
  | 0 => []
  | n + 1 => tabs l n ++ [rowOf (tabs l n) n (flowAt l n)]
def okTab (tab : List (Int × Int)) : Prop := ∀ x ∈ tab, 0 ≤ x.1 ∧ x.1 ≤ 1000 ∧ 0 ≤ x.2 ∧ x.2 ≤ 1000
theorem at2_ok {tab : List (Int × Int)} (h : okTab tab) (q : Pl) : 0 ≤ (at2 tab q).1 ∧ (at2 tab q).1 ≤ 1000 ∧ 0 ≤ (at2 tab q).2 ∧ (at2 tab q).2 ≤ 1000 := by
  unfold at2
  rcases Nat.lt_or_ge q.node.toNat tab.length with hl | hl
  · rw [List.getD_eq_getElem?_getD, List.getElem?_eq_getElem hl]
    exact h _ (List.getElem_mem hl)
  · rw [List.getD_eq_getElem?_getD, List.getElem?_eq_none hl]
    simp
theorem sum1_ok {tab : List (Int × Int)} (h : okTab tab) : ∀ l : List Pl, 0 ≤ sum1 tab l
  | [] => Int.le_refl _
  | q :: r => by have := sum1_ok h r; have := at2_ok h q; simp only [sum1]; omega
theorem sum2_ok {tab : List (Int × Int)} (h : okTab tab) : ∀ l : List Pl, 0 ≤ sum2 tab l
  | [] => Int.le_refl _
  | q :: r => by have := sum2_ok h r; have := at2_ok h q; simp only [sum2]; omega
theorem tabs_len (l : Fls) : ∀ n, (tabs l n).length = n
  | 0 => rfl
  | n + 1 => by simp [tabs, tabs_len l n]
theorem tabs_ok (l : Fls) : ∀ n, okTab (tabs l n)
  | 0 => by simp [tabs, okTab]
  | n + 1 => by
    intro x hx
    rcases List.mem_append.1 hx with hx | hx
    · exact tabs_ok l n x hx
    · simp only [List.mem_singleton] at hx
      subst hx
      have h1 := sum1_ok (tabs_ok l n) ((flowAt l n).eqs.filter (callQ n))
      have h2 := sum2_ok (tabs_ok l n) ((flowAt l n).eqs.filter (callQ n))
      simp only [rowOf]
      omega
/-- The table, as far as it is; the row that is counted; what is not counted yet. -/
def rowsC (tab : List (Int × Int)) (cur : List DV) (n : Nat) : List (List DV) := tab.map cP2 ++ (cur :: List.replicate n (cP2 (0, 0)))
theorem rowsC_len (tab : List (Int × Int)) (cur : List DV) (n : Nat) : (rowsC tab cur n).length = tab.length + n + 1 := by simp [rowsC]; omega
theorem rowsC_mid {tab : List (Int × Int)} {cur : List DV} {n k : Nat} (h : tab.length = k) : (rowsC tab cur n).getD k [] = cur := by
  unfold rowsC
  rw [List.getD_eq_getElem?_getD, List.getElem?_append_right (by simp; omega)]
  simp [h]
theorem rowsC_set {tab : List (Int × Int)} {cur cur' : List DV} {n k : Nat} (h : tab.length = k) : (rowsC tab cur n).set k cur' = rowsC tab cur' n := by
  unfold rowsC
  rw [List.set_append_right _ _ (by simp; omega)]
  simp [h]
theorem rowsC_lo {tab : List (Int × Int)} {cur : List DV} {n : Nat} {q : Pl} (h0 : 0 ≤ q.node) (h : q.node < tab.length) : (rowsC tab cur n).getD q.node.toNat [] = cP2 (at2 tab q) := by
  have hl : q.node.toNat < tab.length := by omega
  unfold rowsC at2
  rw [List.getD_eq_getElem?_getD, List.getElem?_append_left (by simpa using hl)]
  simp [hl]
theorem rep_rowsC {tab : List (Int × Int)} {n : Nat} : tab.map cP2 ++ List.replicate (n + 1) (cP2 (0, 0)) = rowsC tab (cP2 (0, 0)) n := rfl
theorem rowsC_next {tab : List (Int × Int)} {x : Int × Int} {n : Nat} : rowsC tab (cP2 x) n = (tab ++ [x]).map cP2 ++ List.replicate n (cP2 (0, 0)) := by simp [rowsC]

def countF (l : Fls) (at_ : Int) : Int × Int := if 0 ≤ at_ ∧ at_ < l.fs.length then (tabs l (at_.toNat + 1)).getD at_.toNat (0, 0) else (0, 0)
def okC (l : Fls) : Prop := l.fs.length ≤ 10 ∧ ∀ f ∈ l.fs, capF f
noncomputable def s_Count : List DV → Prop × DV := spec2 eFls eI fun l at_ => (okC l, .tup [.int .i64 (countF l at_).1, .int .i64 (countF l at_).2])
theorem s_Count_at (l : Fls) (at_ : Int) : s_Count [.agg (cFls l), .int .i64 at_] = (okC l, .tup [.int .i64 (countF l at_).1, .int .i64 (countF l at_).2]) := spec2_at inj_Fls inj_I _ l at_
theorem ok_mem_Count : OkP Try.prog 21 s_Count := by
  refine OkP.mk2I (ps := [(38, s_kept), (39, s_calls)]) (hs := []) (is := [(47, s_kept1), (48, s_calls1)]) ⟨ok_mem_kept, ok_mem_calls, trivial⟩ trivial ⟨okI_kept1, okI_calls1, trivial⟩ m_mem_Count fun l at_ h => ?_
  obtain ⟨h1, h2⟩ := h
  dsimp only
  by_cases c : 0 ≤ at_ ∧ at_ < l.fs.length
  rotate_left
  · have e : countF l at_ = (0, 0) := by simp [countF, c]
    rw [e]
    
    (have hcondQ := Bool.and_self; refine Todo.of ?_); (repeat' (first | ((with_reducible refine Todo.to ?_); (repeat (first | (simp only [↓rP, rT, rU, eI, eU, eB, eS, eBs, eL, eA, buildCells, sepsD, sepB, hdl, dvalX, DOp.kind, dval, frameFrom, dBin, dInt, dStr, dBeq, dUn, dLoad, cellsAt, retV, retL, DR.val, fzT, fzVs, fzV, fz1, DV.immB, IntKind.bits, dCallP, viewVs, viewV, view1, capVL, capV, viewL, noMemV, noMem, elemsOf, dAppend, dAppz, dStore, DV.one, alive, freezeAt, fzLL, fzL, bRow, bU, cellsOf, setFrom, DV.isU, lenMax, lenCap, Nat.reduceEqDiff, Nat.reduceAdd, ↓reduceIte, reduceCtorEq, Nat.reduceSub, Int.reduceToNat, Int.reducePow, Nat.reducePow, Int.reduceLE, Int.reduceLT, Nat.reduceLeDiff, Nat.reduceLT, Int.reduceBEq, Int.reduceBNe, Int.reduceEq, Int.reduceNe, Int.reduceAdd, Int.reduceSub, Int.reduceMul, Int.reduceNeg, Int.reduceTDiv, Int.reduceTMod, Int.reduceMod, Int.reduceDiv, Nat.reduceMul, forall_const, implies_true, d_mem_Count, s_kept_at, s_calls_at, eCel, eCels, eCloGet, eCloSame, eFl, eFls, eIls, ePl, eRCels, eRIls, eRS, eRows, eSs, eTrn, eY, sls_len, ils_len, ils_rowsT, sls_rowsT, sls_tk0, ils_tk0, cel_tk0, cel_rowsT, ofI_p, ofI_h, only_normal, List.length_map , hcondQ]) | (simp (disch := omega) only [i64_id, u64_id, u8_id, getD_map'])))) | ((with_reducible refine And.intro ?_ ?_); · first | trivial | omega | (simp; done) | (simp; omega)) | ((first | ((with_reducible refine dwp_condI (t := ?_) ?_ (fun hcQ => ?_) (fun hcQ => ?_)); rotate_left; · rfl) | ((with_reducible refine dops_guardI (t := ?_) ?_ (fun hcQ => ?_) (fun hcQ => ?_)); rotate_left; · rfl)) <;> (have hn := hcQ; have hcondQ := hcQ) <;> (try simp only [decide_eq_true_eq, decide_eq_false_iff_not, beq_iff_eq, bne_iff_ne, ne_eq, Bool.and_eq_true, Bool.or_eq_true, Bool.not_eq_true, Bool.not_eq_false, beq_eq_false_iff_ne, bne_eq_false_iff_eq, Bool.not_eq_true', Bool.not_eq_false', Int.ofNat_lt, Int.ofNat_le, Bool.or_eq_false_iff, Bool.and_eq_false_imp, Decidable.not_not, gt_iff_lt, ge_iff_le] at hn) <;> (try (exfalso; omega)) <;> (refine Todo.of ?_)) | (((with_reducible refine dwp_condA ?_ ?_ ?_); · rfl) <;> (refine Todo.of ?_)))) <;> (try (first | (with_reducible rfl) | exact Nat.le_refl _ | exact Int.le_refl _ | assumption | omega))
  obtain ⟨c1, c2⟩ := c
  have e : countF l at_ = (tabs l (at_.toNat + 1)).getD at_.toNat (0, 0) := by simp [countF, c1, c2]
  obtain ⟨n, rfl⟩ : ∃ n : Nat, at_ = n := ⟨at_.toNat, by omega⟩
  rw [e]
  simp only [Int.toNat_natCast]
  have ht : ((n : Int) + 1).toNat = n + 1 := by omega
  (have hcondQ := Bool.and_self; refine Todo.of ?_); (repeat' (first | ((with_reducible refine Todo.to ?_); (repeat (first | (simp only [↓rP, rT, rU, eI, eU, eB, eS, eBs, eL, eA, buildCells, sepsD, sepB, hdl, dvalX, DOp.kind, dval, frameFrom, dBin, dInt, dStr, dBeq, dUn, dLoad, cellsAt, retV, retL, DR.val, fzT, fzVs, fzV, fz1, DV.immB, IntKind.bits, dCallP, viewVs, viewV, view1, capVL, capV, viewL, noMemV, noMem, elemsOf, dAppend, dAppz, dStore, DV.one, alive, freezeAt, fzLL, fzL, bRow, bU, cellsOf, setFrom, DV.isU, lenMax, lenCap, Nat.reduceEqDiff, Nat.reduceAdd, ↓reduceIte, reduceCtorEq, Nat.reduceSub, Int.reduceToNat, Int.reducePow, Nat.reducePow, Int.reduceLE, Int.reduceLT, Nat.reduceLeDiff, Nat.reduceLT, Int.reduceBEq, Int.reduceBNe, Int.reduceEq, Int.reduceNe, Int.reduceAdd, Int.reduceSub, Int.reduceMul, Int.reduceNeg, Int.reduceTDiv, Int.reduceTMod, Int.reduceMod, Int.reduceDiv, Nat.reduceMul, forall_const, implies_true, d_mem_Count, s_kept_at, s_calls_at, eCel, eCels, eCloGet, eCloSame, eFl, eFls, eIls, ePl, eRCels, eRIls, eRS, eRows, eSs, eTrn, eY, sls_len, ils_len, ils_rowsT, sls_rowsT, sls_tk0, ils_tk0, cel_tk0, cel_rowsT, ofI_p, ofI_h, only_normal, List.length_map, ht, List.length_replicate , hcondQ]) | (simp (disch := omega) only [i64_id, u64_id, u8_id, getD_map'])))) | ((with_reducible refine And.intro ?_ ?_); · first | trivial | omega | (simp; done) | (simp; omega)) | ((first | ((with_reducible refine dwp_condI (t := ?_) ?_ (fun hcQ => ?_) (fun hcQ => ?_)); rotate_left; · rfl) | ((with_reducible refine dops_guardI (t := ?_) ?_ (fun hcQ => ?_) (fun hcQ => ?_)); rotate_left; · rfl)) <;> (have hn := hcQ; have hcondQ := hcQ) <;> (try simp only [decide_eq_true_eq, decide_eq_false_iff_not, beq_iff_eq, bne_iff_ne, ne_eq, Bool.and_eq_true, Bool.or_eq_true, Bool.not_eq_true, Bool.not_eq_false, beq_eq_false_iff_ne, bne_eq_false_iff_eq, Bool.not_eq_true', Bool.not_eq_false', Int.ofNat_lt, Int.ofNat_le, Bool.or_eq_false_iff, Bool.and_eq_false_imp, Decidable.not_not, gt_iff_lt, ge_iff_le] at hn) <;> (try (exfalso; omega)) <;> (refine Todo.of ?_)) | (((with_reducible refine dwp_condA ?_ ?_ ?_); · rfl) <;> (refine Todo.of ?_)))) <;> (try (first | (with_reducible rfl) | exact Nat.le_refl _ | exact Int.le_refl _ | assumption | omega))
  refine dwp_loop (fun k : Nat => ⟨[(1, .int .i64 n), (2, .ref (cFls l)), (6, .ptr 1 1 0 0), (8, .undef), (22, .int .i64 (n + 1 : Nat)), (23, .int .i64 k), (51, .undef)], [⟨.imm, 2, (tabs l k).map cP2 ++ List.replicate (n + 1 - k) (cP2 (0, 0))⟩, ⟨.loc, 1, [[.own 0 (n + 1) 0 (n + 1)]]⟩]⟩) (fun k => k ≤ n + 1) (fun k => n + 1 - k) 0 (Nat.zero_le _) (by simp only [cut_some, cut_none, List.map_cons, List.map_nil, get_cons, Nk.get_nil, Nat.reduceEqDiff, ↓reduceIte, Nat.succ_ne_self, DV.cut, DV.inB, DObj.cut, List.take_nil, List.take_zero, if_true, Nat.zero_ne_one, Nat.one_ne_zero, DV.inBL, Bool.and_true, Bool.true_and, reduceCtorEq, Nat.zero_lt_one, decide_true, decide_false, Nat.reduceLT, List.take_succ_cons, Int.natCast_add, Int.natCast_one, List.length_append, List.length_cons, List.length_nil, Nat.zero_add] <;> rfl) (Nat.zero_le _) fun k hk => ?_
  have hk : k ≤ n + 1 := hk
  by_cases d : k < n + 1
  · obtain ⟨m, hm⟩ : ∃ m, n - k = m := ⟨_, rfl⟩
    have e1 : (tabs l k).map cP2 ++ List.replicate (n + 1 - k) (cP2 (0, 0)) = rowsC (tabs l k) (cP2 (0, 0)) m := by
      rw [show n + 1 - k = m + 1 by omega]; rfl
    have hlen : ∀ x, (rowsC (tabs l k) x m).length = n + 1 := fun x => by rw [rowsC_len, tabs_len]; omega
    have hmid : ∀ x, (rowsC (tabs l k) x m).getD k [] = x := fun x => rowsC_mid (tabs_len l k)
    have hset : ∀ x y, (rowsC (tabs l k) x m).set k y = rowsC (tabs l k) y m := fun x y => rowsC_set (tabs_len l k)
    have hg : l.fs[k]? = some (flowAt l k) := by
      have hl : k < l.fs.length := by omega
      simp [flowAt, hl]
    have hcf := h2 _ (List.mem_of_getElem? hg)
    have hkl : k < l.fs.length := by omega
    generalize hT : tabs l k = T at e1 hlen hmid hset
    have hTl : T.length = k := by rw [← hT]; exact tabs_len l k
    have hTo : okTab T := by rw [← hT]; exact tabs_ok l k
    rw [e1]
    generalize hf : flowAt l k = f at hg hcf
    (have hcondQ := Bool.and_self; refine Todo.of ?_); (repeat' (first | ((with_reducible refine Todo.to ?_); (repeat (first | (simp only [↓rP, rT, rU, eI, eU, eB, eS, eBs, eL, eA, buildCells, sepsD, sepB, hdl, dvalX, DOp.kind, dval, frameFrom, dBin, dInt, dStr, dBeq, dUn, dLoad, cellsAt, retV, retL, DR.val, fzT, fzVs, fzV, fz1, DV.immB, IntKind.bits, dCallP, viewVs, viewV, view1, capVL, capV, viewL, noMemV, noMem, elemsOf, dAppend, dAppz, dStore, DV.one, alive, freezeAt, fzLL, fzL, bRow, bU, cellsOf, setFrom, DV.isU, lenMax, lenCap, Nat.reduceEqDiff, Nat.reduceAdd, ↓reduceIte, reduceCtorEq, Nat.reduceSub, Int.reduceToNat, Int.reducePow, Nat.reducePow, Int.reduceLE, Int.reduceLT, Nat.reduceLeDiff, Nat.reduceLT, Int.reduceBEq, Int.reduceBNe, Int.reduceEq, Int.reduceNe, Int.reduceAdd, Int.reduceSub, Int.reduceMul, Int.reduceNeg, Int.reduceTDiv, Int.reduceTMod, Int.reduceMod, Int.reduceDiv, Nat.reduceMul, forall_const, implies_true, d_mem_Count, s_kept_at, s_calls_at, eCel, eCels, eCloGet, eCloSame, eFl, eFls, eIls, ePl, eRCels, eRIls, eRS, eRows, eSs, eTrn, eY, sls_len, ils_len, ils_rowsT, sls_rowsT, sls_tk0, ils_tk0, cel_tk0, cel_rowsT, ofI_p, ofI_h, only_normal, d, List.length_map, hlen, hmid, hset, map_getD cFl hg, hkl , hcondQ]) | (simp (disch := omega) only [i64_id, u64_id, u8_id, getD_map'])))) | ((with_reducible refine And.intro ?_ ?_); · first | trivial | omega | (simp; done) | (simp; omega)) | ((first | ((with_reducible refine dwp_condI (t := ?_) ?_ (fun hcQ => ?_) (fun hcQ => ?_)); rotate_left; · rfl) | ((with_reducible refine dops_guardI (t := ?_) ?_ (fun hcQ => ?_) (fun hcQ => ?_)); rotate_left; · rfl)) <;> (have hn := hcQ; have hcondQ := hcQ) <;> (try simp only [decide_eq_true_eq, decide_eq_false_iff_not, beq_iff_eq, bne_iff_ne, ne_eq, Bool.and_eq_true, Bool.or_eq_true, Bool.not_eq_true, Bool.not_eq_false, beq_eq_false_iff_ne, bne_eq_false_iff_eq, Bool.not_eq_true', Bool.not_eq_false', Int.ofNat_lt, Int.ofNat_le, Bool.or_eq_false_iff, Bool.and_eq_false_imp, Decidable.not_not, gt_iff_lt, ge_iff_le] at hn) <;> (try (exfalso; omega)) <;> (refine Todo.of ?_)) | (((with_reducible refine dwp_condA ?_ ?_ ?_); · rfl) <;> (refine Todo.of ?_)))) <;> (try (first | (with_reducible rfl) | exact Nat.le_refl _ | exact Int.le_refl _ | assumption | omega))
    have q1 : (Orc.ofI [(38, s_kept), (39, s_calls)] [] [(47, s_kept1), (48, s_calls1)]).i 47 [.ref (cFl f)] = (True, (f.eqs.filter fbyQ).map encQ) := by
      have := s_kept1_at f
      rw [eq_true hcf] at this
      exact this
    have q2 : (Orc.ofI [(38, s_kept), (39, s_calls)] [] [(47, s_kept1), (48, s_calls1)]).i 48 [.ref (cFls l), .ref [.int .i64 k]] = (True, (f.eqs.filter (callQ k)).map encQ) := by
      have := s_calls1_at l k
      rw [hf, eq_true (show okAt (l, (k : Int)) from ⟨by simp only; omega, by simp only; omega, by simp only [capLen]; omega, h2⟩)] at this
      exact this
    refine dwp_range (f.eqs.filter fbyQ) encQ (fun _ (a : Int) => [⟨.imm, 2, rowsC T [.int .i64 a, .int .i64 1] m⟩, ⟨.loc, 1, [[.own 0 (n + 1) 0 (n + 1)]]⟩, ⟨.loc, 1, [[.int .i64 k]]⟩]) (fun j _ a => a = min (j : Int) 1000) 0
      [(1, .int .i64 n), (2, .ref (cFls l)), (6, .ptr 1 1 0 0), (7, .ptr 2 1 0 0), (8, .undef), (22, .int .i64 (n + 1 : Nat)), (23, .int .i64 k), (51, .undef)] (Nat.zero_le _) rfl rfl q1 rfl (by simp only [cut_some, cut_none, List.map_cons, List.map_nil, get_cons, Nk.get_nil, Nat.reduceEqDiff, ↓reduceIte, Nat.succ_ne_self, DV.cut, DV.inB, DObj.cut, List.take_nil, List.take_zero, if_true, Nat.zero_ne_one, Nat.one_ne_zero, DV.inBL, Bool.and_true, Bool.true_and, reduceCtorEq, Nat.zero_lt_one, decide_true, decide_false, Nat.reduceLT, List.take_succ_cons, Int.natCast_add, Int.natCast_one, List.length_append, List.length_cons, List.length_nil, Nat.zero_add] <;> rfl) rfl (fun j x r a hx hd hr => ⟨rfl, ?_⟩) (fun j a ej hr => ?_)
    · subst hr
      (have hcondQ := Bool.and_self; refine Todo.of ?_); (repeat' (first | ((with_reducible refine Todo.to ?_); (repeat (first | (simp only [↓rP, rT, rU, eI, eU, eB, eS, eBs, eL, eA, buildCells, sepsD, sepB, hdl, dvalX, DOp.kind, dval, frameFrom, dBin, dInt, dStr, dBeq, dUn, dLoad, cellsAt, retV, retL, DR.val, fzT, fzVs, fzV, fz1, DV.immB, IntKind.bits, dCallP, viewVs, viewV, view1, capVL, capV, viewL, noMemV, noMem, elemsOf, dAppend, dAppz, dStore, DV.one, alive, freezeAt, fzLL, fzL, bRow, bU, cellsOf, setFrom, DV.isU, lenMax, lenCap, Nat.reduceEqDiff, Nat.reduceAdd, ↓reduceIte, reduceCtorEq, Nat.reduceSub, Int.reduceToNat, Int.reducePow, Nat.reducePow, Int.reduceLE, Int.reduceLT, Nat.reduceLeDiff, Nat.reduceLT, Int.reduceBEq, Int.reduceBNe, Int.reduceEq, Int.reduceNe, Int.reduceAdd, Int.reduceSub, Int.reduceMul, Int.reduceNeg, Int.reduceTDiv, Int.reduceTMod, Int.reduceMod, Int.reduceDiv, Nat.reduceMul, forall_const, implies_true, d_mem_Count, s_kept_at, s_calls_at, eCel, eCels, eCloGet, eCloSame, eFl, eFls, eIls, ePl, eRCels, eRIls, eRS, eRows, eSs, eTrn, eY, sls_len, ils_len, ils_rowsT, sls_rowsT, sls_tk0, ils_tk0, cel_tk0, cel_rowsT, ofI_p, ofI_h, only_normal, encQ, List.zip_cons_cons, List.zip_nil_left, List.zip_nil_right, List.length_map, hlen, hmid, hset , hcondQ]) | (simp (disch := omega) only [i64_id, u64_id, u8_id, getD_map'])))) | ((with_reducible refine And.intro ?_ ?_); · first | trivial | omega | (simp; done) | (simp; omega)) | ((first | ((with_reducible refine dwp_condI (t := ?_) ?_ (fun hcQ => ?_) (fun hcQ => ?_)); rotate_left; · rfl) | ((with_reducible refine dops_guardI (t := ?_) ?_ (fun hcQ => ?_) (fun hcQ => ?_)); rotate_left; · rfl)) <;> (have hn := hcQ; have hcondQ := hcQ) <;> (try simp only [decide_eq_true_eq, decide_eq_false_iff_not, beq_iff_eq, bne_iff_ne, ne_eq, Bool.and_eq_true, Bool.or_eq_true, Bool.not_eq_true, Bool.not_eq_false, beq_eq_false_iff_ne, bne_eq_false_iff_eq, Bool.not_eq_true', Bool.not_eq_false', Int.ofNat_lt, Int.ofNat_le, Bool.or_eq_false_iff, Bool.and_eq_false_imp, Decidable.not_not, gt_iff_lt, ge_iff_le] at hn) <;> (try (exfalso; omega)) <;> (refine Todo.of ?_)) | (((with_reducible refine dwp_condA ?_ ?_ ?_); · rfl) <;> (refine Todo.of ?_)))) <;> (try (first | (with_reducible rfl) | exact Nat.le_refl _ | exact Int.le_refl _ | assumption | omega))
      exact ⟨_, by simp only [cut_some, cut_none, List.map_cons, List.map_nil, get_cons, Nk.get_nil, Nat.reduceEqDiff, ↓reduceIte, Nat.succ_ne_self, DV.cut, DV.inB, DObj.cut, List.take_nil, List.take_zero, if_true, Nat.zero_ne_one, Nat.one_ne_zero, DV.inBL, Bool.and_true, Bool.true_and, reduceCtorEq, Nat.zero_lt_one, decide_true, decide_false, Nat.reduceLT, List.take_succ_cons, Int.natCast_add, Int.natCast_one, List.length_append, List.length_cons, List.length_nil, Nat.zero_add] <;> rfl, by omega⟩
    · subst hr
      rw [ej]
      (have hcondQ := Bool.and_self; refine Todo.of ?_); (repeat' (first | ((with_reducible refine Todo.to ?_); (repeat (first | (simp only [↓rP, rT, rU, eI, eU, eB, eS, eBs, eL, eA, buildCells, sepsD, sepB, hdl, dvalX, DOp.kind, dval, frameFrom, dBin, dInt, dStr, dBeq, dUn, dLoad, cellsAt, retV, retL, DR.val, fzT, fzVs, fzV, fz1, DV.immB, IntKind.bits, dCallP, viewVs, viewV, view1, capVL, capV, viewL, noMemV, noMem, elemsOf, dAppend, dAppz, dStore, DV.one, alive, freezeAt, fzLL, fzL, bRow, bU, cellsOf, setFrom, DV.isU, lenMax, lenCap, Nat.reduceEqDiff, Nat.reduceAdd, ↓reduceIte, reduceCtorEq, Nat.reduceSub, Int.reduceToNat, Int.reducePow, Nat.reducePow, Int.reduceLE, Int.reduceLT, Nat.reduceLeDiff, Nat.reduceLT, Int.reduceBEq, Int.reduceBNe, Int.reduceEq, Int.reduceNe, Int.reduceAdd, Int.reduceSub, Int.reduceMul, Int.reduceNeg, Int.reduceTDiv, Int.reduceTMod, Int.reduceMod, Int.reduceDiv, Nat.reduceMul, forall_const, implies_true, d_mem_Count, s_kept_at, s_calls_at, eCel, eCels, eCloGet, eCloSame, eFl, eFls, eIls, ePl, eRCels, eRIls, eRS, eRows, eSs, eTrn, eY, sls_len, ils_len, ils_rowsT, sls_rowsT, sls_tk0, ils_tk0, cel_tk0, cel_rowsT, ofI_p, ofI_h, only_normal, List.length_map, hlen, hmid, hset , hcondQ]) | (simp (disch := omega) only [i64_id, u64_id, u8_id, getD_map'])))) | ((with_reducible refine And.intro ?_ ?_); · first | trivial | omega | (simp; done) | (simp; omega)) | ((first | ((with_reducible refine dwp_condI (t := ?_) ?_ (fun hcQ => ?_) (fun hcQ => ?_)); rotate_left; · rfl) | ((with_reducible refine dops_guardI (t := ?_) ?_ (fun hcQ => ?_) (fun hcQ => ?_)); rotate_left; · rfl)) <;> (have hn := hcQ; have hcondQ := hcQ) <;> (try simp only [decide_eq_true_eq, decide_eq_false_iff_not, beq_iff_eq, bne_iff_ne, ne_eq, Bool.and_eq_true, Bool.or_eq_true, Bool.not_eq_true, Bool.not_eq_false, beq_eq_false_iff_ne, bne_eq_false_iff_eq, Bool.not_eq_true', Bool.not_eq_false', Int.ofNat_lt, Int.ofNat_le, Bool.or_eq_false_iff, Bool.and_eq_false_imp, Decidable.not_not, gt_iff_lt, ge_iff_le] at hn) <;> (try (exfalso; omega)) <;> (refine Todo.of ?_)) | (((with_reducible refine dwp_condA ?_ ?_ ?_); · rfl) <;> (refine Todo.of ?_)))) <;> (try (first | (with_reducible rfl) | exact Nat.le_refl _ | exact Int.le_refl _ | assumption | omega))
      refine dwp_range (f.eqs.filter (callQ k)) encQ (fun _ (a : Int × Int) => [⟨.imm, 2, rowsC T (cP2 a) m⟩, ⟨.loc, 1, [[.own 0 (n + 1) 0 (n + 1)]]⟩, ⟨.loc, 1, [[.int .i64 k]]⟩])
        (fun j r a => (0 ≤ a.1 ∧ a.1 ≤ 1000 ∧ 0 ≤ a.2 ∧ a.2 ≤ 1000) ∧ min (a.1 + sum1 T r) 1000 = (rowOf T k f).1 ∧ min (a.2 + sum2 T r) 1000 = (rowOf T k f).2) (min ((f.eqs.filter fbyQ).length : Int) 1000, 1)
        [(1, .int .i64 n), (2, .ref (cFls l)), (6, .ptr 1 1 0 0), (7, .ptr 2 1 0 0), (8, .undef), (22, .int .i64 (n + 1 : Nat)), (23, .int .i64 k)] (Nat.zero_le _) rfl rfl q2 rfl (by simp only [cut_some, cut_none, List.map_cons, List.map_nil, get_cons, Nk.get_nil, Nat.reduceEqDiff, ↓reduceIte, Nat.succ_ne_self, DV.cut, DV.inB, DObj.cut, List.take_nil, List.take_zero, if_true, Nat.zero_ne_one, Nat.one_ne_zero, DV.inBL, Bool.and_true, Bool.true_and, reduceCtorEq, Nat.zero_lt_one, decide_true, decide_false, Nat.reduceLT, List.take_succ_cons, Int.natCast_add, Int.natCast_one, List.length_append, List.length_cons, List.length_nil, Nat.zero_add] <;> rfl) ?_ (fun j x r a hx hd hr => ⟨rfl, ?_⟩) (fun j a ej hr => ?_)
      · have g1 := sum1_ok hTo (f.eqs.filter (callQ k))
        have g2 := sum2_ok hTo (f.eqs.filter (callQ k))
        simp only [rowOf]
        refine ⟨⟨by omega, by omega, by omega, by omega⟩, by omega, by first | trivial | omega⟩
      · obtain ⟨⟨r1, r2, r3, r4⟩, r5, r6⟩ := hr
        have hq : callQ k x = true := (List.mem_filter.1 (List.mem_of_getElem? hx)).2
        simp only [callQ, Bool.and_eq_true, decide_eq_true_eq] at hq
        obtain ⟨_, _, n0, n1⟩ := hq
        have hlo : ∀ y, (rowsC T y m).getD x.node.toNat [] = cP2 (at2 T x) := fun y => rowsC_lo n0 (by omega)
        have hnk : ¬ (x.node.toNat = k) := by omega
        have hnl : x.node < ((n + 1 : Nat) : Int) := by omega
        have a1 := at2_ok hTo x
        have g1 := sum1_ok hTo r
        have g2 := sum2_ok hTo r
        simp only [sum1, sum2] at r5 r6
        (have hcondQ := Bool.and_self; refine Todo.of ?_); (repeat' (first | ((with_reducible refine Todo.to ?_); (repeat (first | (simp only [↓rP, rT, rU, eI, eU, eB, eS, eBs, eL, eA, buildCells, sepsD, sepB, hdl, dvalX, DOp.kind, dval, frameFrom, dBin, dInt, dStr, dBeq, dUn, dLoad, cellsAt, retV, retL, DR.val, fzT, fzVs, fzV, fz1, DV.immB, IntKind.bits, dCallP, viewVs, viewV, view1, capVL, capV, viewL, noMemV, noMem, elemsOf, dAppend, dAppz, dStore, DV.one, alive, freezeAt, fzLL, fzL, bRow, bU, cellsOf, setFrom, DV.isU, lenMax, lenCap, Nat.reduceEqDiff, Nat.reduceAdd, ↓reduceIte, reduceCtorEq, Nat.reduceSub, Int.reduceToNat, Int.reducePow, Nat.reducePow, Int.reduceLE, Int.reduceLT, Nat.reduceLeDiff, Nat.reduceLT, Int.reduceBEq, Int.reduceBNe, Int.reduceEq, Int.reduceNe, Int.reduceAdd, Int.reduceSub, Int.reduceMul, Int.reduceNeg, Int.reduceTDiv, Int.reduceTMod, Int.reduceMod, Int.reduceDiv, Nat.reduceMul, forall_const, implies_true, d_mem_Count, s_kept_at, s_calls_at, eCel, eCels, eCloGet, eCloSame, eFl, eFls, eIls, ePl, eRCels, eRIls, eRS, eRows, eSs, eTrn, eY, sls_len, ils_len, ils_rowsT, sls_rowsT, sls_tk0, ils_tk0, cel_tk0, cel_rowsT, ofI_p, ofI_h, only_normal, encQ, List.zip_cons_cons, List.zip_nil_left, List.zip_nil_right, List.length_map, hlen, hmid, hset, hlo, n0, hnl , hcondQ]) | (simp (disch := omega) only [i64_id, u64_id, u8_id, getD_map'])))) | ((with_reducible refine And.intro ?_ ?_); · first | trivial | omega | (simp; done) | (simp; omega)) | ((first | ((with_reducible refine dwp_condI (t := ?_) ?_ (fun hcQ => ?_) (fun hcQ => ?_)); rotate_left; · rfl) | ((with_reducible refine dops_guardI (t := ?_) ?_ (fun hcQ => ?_) (fun hcQ => ?_)); rotate_left; · rfl)) <;> (have hn := hcQ; have hcondQ := hcQ) <;> (try simp only [decide_eq_true_eq, decide_eq_false_iff_not, beq_iff_eq, bne_iff_ne, ne_eq, Bool.and_eq_true, Bool.or_eq_true, Bool.not_eq_true, Bool.not_eq_false, beq_eq_false_iff_ne, bne_eq_false_iff_eq, Bool.not_eq_true', Bool.not_eq_false', Int.ofNat_lt, Int.ofNat_le, Bool.or_eq_false_iff, Bool.and_eq_false_imp, Decidable.not_not, gt_iff_lt, ge_iff_le] at hn) <;> (try (exfalso; omega)) <;> (refine Todo.of ?_)) | (((with_reducible refine dwp_condA ?_ ?_ ?_); · rfl) <;> (refine Todo.of ?_)))) <;> (try (first | (with_reducible rfl) | exact Nat.le_refl _ | exact Int.le_refl _ | assumption | omega))
        exact ⟨(_, _), by simp only [cut_some, cut_none, List.map_cons, List.map_nil, get_cons, Nk.get_nil, Nat.reduceEqDiff, ↓reduceIte, Nat.succ_ne_self, DV.cut, DV.inB, DObj.cut, List.take_nil, List.take_zero, if_true, Nat.zero_ne_one, Nat.one_ne_zero, DV.inBL, Bool.and_true, Bool.true_and, reduceCtorEq, Nat.zero_lt_one, decide_true, decide_false, Nat.reduceLT, List.take_succ_cons, Int.natCast_add, Int.natCast_one, List.length_append, List.length_cons, List.length_nil, Nat.zero_add] <;> rfl, by simp only; omega⟩
      · obtain ⟨⟨r1, r2, r3, r4⟩, r5, r6⟩ := hr
        simp only [sum1, sum2, Int.add_zero] at r5 r6
        have ea : a = rowOf T k f := by
          obtain ⟨a1, a2⟩ := a
          simp only at r1 r2 r3 r4 r5 r6
          exact Prod.ext (by simp only; omega) (by simp only; omega)
        subst ea
        (have hcondQ := Bool.and_self; refine Todo.of ?_); (repeat' (first | ((with_reducible refine Todo.to ?_); (repeat (first | (simp only [↓rP, rT, rU, eI, eU, eB, eS, eBs, eL, eA, buildCells, sepsD, sepB, hdl, dvalX, DOp.kind, dval, frameFrom, dBin, dInt, dStr, dBeq, dUn, dLoad, cellsAt, retV, retL, DR.val, fzT, fzVs, fzV, fz1, DV.immB, IntKind.bits, dCallP, viewVs, viewV, view1, capVL, capV, viewL, noMemV, noMem, elemsOf, dAppend, dAppz, dStore, DV.one, alive, freezeAt, fzLL, fzL, bRow, bU, cellsOf, setFrom, DV.isU, lenMax, lenCap, Nat.reduceEqDiff, Nat.reduceAdd, ↓reduceIte, reduceCtorEq, Nat.reduceSub, Int.reduceToNat, Int.reducePow, Nat.reducePow, Int.reduceLE, Int.reduceLT, Nat.reduceLeDiff, Nat.reduceLT, Int.reduceBEq, Int.reduceBNe, Int.reduceEq, Int.reduceNe, Int.reduceAdd, Int.reduceSub, Int.reduceMul, Int.reduceNeg, Int.reduceTDiv, Int.reduceTMod, Int.reduceMod, Int.reduceDiv, Nat.reduceMul, forall_const, implies_true, d_mem_Count, s_kept_at, s_calls_at, eCel, eCels, eCloGet, eCloSame, eFl, eFls, eIls, ePl, eRCels, eRIls, eRS, eRows, eSs, eTrn, eY, sls_len, ils_len, ils_rowsT, sls_rowsT, sls_tk0, ils_tk0, cel_tk0, cel_rowsT, ofI_p, ofI_h, only_normal, List.length_map, hlen, hmid, hset , hcondQ]) | (simp (disch := omega) only [i64_id, u64_id, u8_id, getD_map'])))) | ((with_reducible refine And.intro ?_ ?_); · first | trivial | omega | (simp; done) | (simp; omega)) | ((first | ((with_reducible refine dwp_condI (t := ?_) ?_ (fun hcQ => ?_) (fun hcQ => ?_)); rotate_left; · rfl) | ((with_reducible refine dops_guardI (t := ?_) ?_ (fun hcQ => ?_) (fun hcQ => ?_)); rotate_left; · rfl)) <;> (have hn := hcQ; have hcondQ := hcQ) <;> (try simp only [decide_eq_true_eq, decide_eq_false_iff_not, beq_iff_eq, bne_iff_ne, ne_eq, Bool.and_eq_true, Bool.or_eq_true, Bool.not_eq_true, Bool.not_eq_false, beq_eq_false_iff_ne, bne_eq_false_iff_eq, Bool.not_eq_true', Bool.not_eq_false', Int.ofNat_lt, Int.ofNat_le, Bool.or_eq_false_iff, Bool.and_eq_false_imp, Decidable.not_not, gt_iff_lt, ge_iff_le] at hn) <;> (try (exfalso; omega)) <;> (refine Todo.of ?_)) | (((with_reducible refine dwp_condA ?_ ?_ ?_); · rfl) <;> (refine Todo.of ?_)))) <;> (try (first | (with_reducible rfl) | exact Nat.le_refl _ | exact Int.le_refl _ | assumption | omega))
        refine ⟨k + 1, ?_, by omega, by omega⟩
        have e2 : (tabs l (k + 1)).map cP2 ++ List.replicate (n + 1 - (k + 1)) (cP2 (0, 0)) = rowsC T (cP2 (rowOf T k f)) m := by
          rw [rowsC_next, show n + 1 - (k + 1) = m by omega]
          simp only [tabs, hT, hf]
        rw [e2]
        exact (by simp only [cut_some, cut_none, List.map_cons, List.map_nil, get_cons, Nk.get_nil, Nat.reduceEqDiff, ↓reduceIte, Nat.succ_ne_self, DV.cut, DV.inB, DObj.cut, List.take_nil, List.take_zero, if_true, Nat.zero_ne_one, Nat.one_ne_zero, DV.inBL, Bool.and_true, Bool.true_and, reduceCtorEq, Nat.zero_lt_one, decide_true, decide_false, Nat.reduceLT, List.take_succ_cons, Int.natCast_add, Int.natCast_one, List.length_append, List.length_cons, List.length_nil, Nat.zero_add] <;> rfl)
  · have e1 : k = n + 1 := by omega
    subst e1
    have hg2 : ((tabs l (n + 1)).map cP2).getD n [] = cP2 ((tabs l (n + 1)).getD n (0, 0)) := by
      have hl : n < (tabs l (n + 1)).length := by rw [tabs_len]; omega
      simp [hl]
    (have hcondQ := Bool.and_self; refine Todo.of ?_); (repeat' (first | ((with_reducible refine Todo.to ?_); (repeat (first | (simp only [↓rP, rT, rU, eI, eU, eB, eS, eBs, eL, eA, buildCells, sepsD, sepB, hdl, dvalX, DOp.kind, dval, frameFrom, dBin, dInt, dStr, dBeq, dUn, dLoad, cellsAt, retV, retL, DR.val, fzT, fzVs, fzV, fz1, DV.immB, IntKind.bits, dCallP, viewVs, viewV, view1, capVL, capV, viewL, noMemV, noMem, elemsOf, dAppend, dAppz, dStore, DV.one, alive, freezeAt, fzLL, fzL, bRow, bU, cellsOf, setFrom, DV.isU, lenMax, lenCap, Nat.reduceEqDiff, Nat.reduceAdd, ↓reduceIte, reduceCtorEq, Nat.reduceSub, Int.reduceToNat, Int.reducePow, Nat.reducePow, Int.reduceLE, Int.reduceLT, Nat.reduceLeDiff, Nat.reduceLT, Int.reduceBEq, Int.reduceBNe, Int.reduceEq, Int.reduceNe, Int.reduceAdd, Int.reduceSub, Int.reduceMul, Int.reduceNeg, Int.reduceTDiv, Int.reduceTMod, Int.reduceMod, Int.reduceDiv, Nat.reduceMul, forall_const, implies_true, d_mem_Count, s_kept_at, s_calls_at, eCel, eCels, eCloGet, eCloSame, eFl, eFls, eIls, ePl, eRCels, eRIls, eRS, eRows, eSs, eTrn, eY, sls_len, ils_len, ils_rowsT, sls_rowsT, sls_tk0, ils_tk0, cel_tk0, cel_rowsT, ofI_p, ofI_h, only_normal, d, List.length_map, tabs_len, Nat.sub_self, List.replicate_zero, List.append_nil, hg2 , hcondQ]) | (simp (disch := omega) only [i64_id, u64_id, u8_id, getD_map'])))) | ((with_reducible refine And.intro ?_ ?_); · first | trivial | omega | (simp; done) | (simp; omega)) | ((first | ((with_reducible refine dwp_condI (t := ?_) ?_ (fun hcQ => ?_) (fun hcQ => ?_)); rotate_left; · rfl) | ((with_reducible refine dops_guardI (t := ?_) ?_ (fun hcQ => ?_) (fun hcQ => ?_)); rotate_left; · rfl)) <;> (have hn := hcQ; have hcondQ := hcQ) <;> (try simp only [decide_eq_true_eq, decide_eq_false_iff_not, beq_iff_eq, bne_iff_ne, ne_eq, Bool.and_eq_true, Bool.or_eq_true, Bool.not_eq_true, Bool.not_eq_false, beq_eq_false_iff_ne, bne_eq_false_iff_eq, Bool.not_eq_true', Bool.not_eq_false', Int.ofNat_lt, Int.ofNat_le, Bool.or_eq_false_iff, Bool.and_eq_false_imp, Decidable.not_not, gt_iff_lt, ge_iff_le] at hn) <;> (try (exfalso; omega)) <;> (refine Todo.of ?_)) | (((with_reducible refine dwp_condA ?_ ?_ ?_); · rfl) <;> (refine Todo.of ?_)))) <;> (try (first | (with_reducible rfl) | exact Nat.le_refl _ | exact Int.le_refl _ | assumption | omega))
end Go.Proofs.Ytlbemkkfgijljaa
