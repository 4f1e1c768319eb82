/- Types' texts. -/
import Derived.Test.YtaoabkpfidbogaaDoorTyH
import Derived.Test.YtaoabkpfidbogaaDoorNkZ5
set_option linter.all false
set_option maxRecDepth 20000
namespace Go.Proofs.YtaoabkpfidbogaaDoor
open Go.Nk

def oneTy (t : Ty) : Ty := ⟨t.k, t.e, 0⟩
noncomputable def s_OneTy : List DV → Prop × DV := spec1 eTy fun t => (True, .agg (cTy (oneTy t)))
theorem s_OneTy_at (t : Ty) : s_OneTy [.agg (cTy t)] = (True, .agg (cTy (oneTy t))) := spec1_at inj_Ty _ t
def dig (n : Int) : UInt8 := UInt8.ofNat (48 + n).toNat
def ok9 (n : Int) : Prop := 0 ≤ n ∧ n ≤ 9
theorem cases9 {n : Int} (h : ok9 n) : n = 0 ∨ n = 1 ∨ n = 2 ∨ n = 3 ∨ n = 4 ∨ n = 5 ∨ n = 6 ∨ n = 7 ∨ n = 8 ∨ n = 9 := by
  obtain ⟨h1, h2⟩ := h
  omega
noncomputable def s_small9 : List DV → Prop × DV := spec1 eI fun n => (ok9 n, .str [dig n])
theorem s_small9_at (n : Int) : s_small9 [.int .i64 n] = (ok9 n, .str [dig n]) := spec1_at inj_I _ n
theorem ok_internal_strconv_small : OkP Tryd.prog 52 s_small9 := by
  refine OkP.mk1 (ps := []) (hs := []) trivial trivial m_internal_strconv_small fun n h => ?_
  try dsimp only at h
  rcases cases9 h with rfl | rfl | rfl | rfl | rfl | rfl | rfl | rfl | rfl | rfl <;> ((have hcondQ := Bool.and_self; refine Todo.of ?_); (repeat' (first | ((with_reducible refine Todo.to ?_); (repeat (first | (simp only [↓rP, rT, rU, eI, eU, eB, eS, eBs, eL, eA, buildCells, sepsD, sepB, hdl, dvalX, DOp.kind, dval, frameFrom, dBin, dInt, dStr, dBeq, dUn, dLoad, cellsAt, retV, retL, DR.val, fzT, fzVs, fzV, fz1, DV.immB, IntKind.bits, dCallP, viewVs, viewV, view1, capVL, capV, viewL, noMemV, noMem, elemsOf, dAppend, dAppz, dStore, DV.one, alive, freezeAt, fzLL, fzL, bRow, bU, cellsOf, setFrom, DV.isU, lenMax, lenCap, Nat.reduceEqDiff, Nat.reduceAdd, ↓reduceIte, reduceCtorEq, Nat.reduceSub, Int.reduceToNat, Int.reducePow, Nat.reducePow, Int.reduceLE, Int.reduceLT, Nat.reduceLeDiff, Nat.reduceLT, Int.reduceBEq, Int.reduceBNe, Int.reduceEq, Int.reduceNe, Int.reduceAdd, Int.reduceSub, Int.reduceMul, Int.reduceNeg, Int.reduceTDiv, Int.reduceTMod, Int.reduceMod, Int.reduceDiv, Nat.reduceMul, forall_const, implies_true, d_internal_strconv_small, eEns, eIls, eImg, ePrt, ePrts, eRows, eSs, eTy, eY, sls_len, ils_len, ils_rowsT, sls_rowsT, sls_tk0, ils_tk0, s_RightTy_at, s_CellsTy_at, dSliceS, dBound , hcondQ]) | (simp (disch := omega) only [i64_id, u64_id, u8_id, getD_map'])))) | ((with_reducible refine And.intro ?_ ?_); · first | trivial | omega | (simp; done) | (simp; omega)) | ((first | ((with_reducible refine dwp_condI (t := ?_) ?_ (fun hcQ => ?_) (fun hcQ => ?_)); rotate_left; · rfl) | ((with_reducible refine dops_guardI (t := ?_) ?_ (fun hcQ => ?_) (fun hcQ => ?_)); rotate_left; · rfl)) <;> (have hn := hcQ; have hcondQ := hcQ) <;> (try simp only [decide_eq_true_eq, decide_eq_false_iff_not, beq_iff_eq, bne_iff_ne, ne_eq, Bool.and_eq_true, Bool.or_eq_true, Bool.not_eq_true, Bool.not_eq_false, beq_eq_false_iff_ne, bne_eq_false_iff_eq, Bool.not_eq_true', Bool.not_eq_false', Int.ofNat_lt, Int.ofNat_le, Bool.or_eq_false_iff, Bool.and_eq_false_imp, Decidable.not_not, gt_iff_lt, ge_iff_le] at hn) <;> (try (exfalso; omega)) <;> (refine Todo.of ?_)) | (((with_reducible refine dwp_condA ?_ ?_ ?_); · rfl) <;> (refine Todo.of ?_)))) <;> (try (first | (with_reducible rfl) | exact Nat.le_refl _ | exact Int.le_refl _ | assumption | omega)))
  all_goals rfl
noncomputable def s_FmtI9 : List DV → Prop × DV := spec2 eI eI fun n b => (ok9 n ∧ b = 10, .str [dig n])
theorem s_FmtI9_at (n : Int) (b : Int) : s_FmtI9 [.int .i64 n, .int .i64 b] = (ok9 n ∧ b = 10, .str [dig n]) := spec2_at inj_I inj_I _ n b
theorem ok_internal_strconv_FormatInt : OkP Tryd.prog 47 s_FmtI9 := by
  refine OkP.mk2 (ps := [(52, s_small9)]) (hs := []) ⟨ok_internal_strconv_small, trivial⟩ trivial m_internal_strconv_FormatInt fun n b h => ?_
  try dsimp only at h
  obtain ⟨h, rfl⟩ := h
  have e1 := s_small9_at n
  rw [eq_true h] at e1
  obtain ⟨h1, h2⟩ := h
  have c1 : decide (0 ≤ n) = true := decide_eq_true h1
  have c2 : decide (n < 100) = true := decide_eq_true (by omega)
  (have hcondQ := Bool.and_self; refine Todo.of ?_); (repeat' (first | ((with_reducible refine Todo.to ?_); (repeat (first | (simp only [↓rP, rT, rU, eI, eU, eB, eS, eBs, eL, eA, buildCells, sepsD, sepB, hdl, dvalX, DOp.kind, dval, frameFrom, dBin, dInt, dStr, dBeq, dUn, dLoad, cellsAt, retV, retL, DR.val, fzT, fzVs, fzV, fz1, DV.immB, IntKind.bits, dCallP, viewVs, viewV, view1, capVL, capV, viewL, noMemV, noMem, elemsOf, dAppend, dAppz, dStore, DV.one, alive, freezeAt, fzLL, fzL, bRow, bU, cellsOf, setFrom, DV.isU, lenMax, lenCap, Nat.reduceEqDiff, Nat.reduceAdd, ↓reduceIte, reduceCtorEq, Nat.reduceSub, Int.reduceToNat, Int.reducePow, Nat.reducePow, Int.reduceLE, Int.reduceLT, Nat.reduceLeDiff, Nat.reduceLT, Int.reduceBEq, Int.reduceBNe, Int.reduceEq, Int.reduceNe, Int.reduceAdd, Int.reduceSub, Int.reduceMul, Int.reduceNeg, Int.reduceTDiv, Int.reduceTMod, Int.reduceMod, Int.reduceDiv, Nat.reduceMul, forall_const, implies_true, d_internal_strconv_FormatInt, s_small9_at, eEns, eIls, eImg, ePrt, ePrts, eRows, eSs, eTy, eY, sls_len, ils_len, ils_rowsT, sls_rowsT, sls_tk0, ils_tk0, s_RightTy_at, s_CellsTy_at, e1, c1, c2 , hcondQ]) | (simp (disch := omega) only [i64_id, u64_id, u8_id, getD_map'])))) | ((with_reducible refine And.intro ?_ ?_); · first | trivial | omega | (simp; done) | (simp; omega)) | ((first | ((with_reducible refine dwp_condI (t := ?_) ?_ (fun hcQ => ?_) (fun hcQ => ?_)); rotate_left; · rfl) | ((with_reducible refine dops_guardI (t := ?_) ?_ (fun hcQ => ?_) (fun hcQ => ?_)); rotate_left; · rfl)) <;> (have hn := hcQ; have hcondQ := hcQ) <;> (try simp only [decide_eq_true_eq, decide_eq_false_iff_not, beq_iff_eq, bne_iff_ne, ne_eq, Bool.and_eq_true, Bool.or_eq_true, Bool.not_eq_true, Bool.not_eq_false, beq_eq_false_iff_ne, bne_eq_false_iff_eq, Bool.not_eq_true', Bool.not_eq_false', Int.ofNat_lt, Int.ofNat_le, Bool.or_eq_false_iff, Bool.and_eq_false_imp, Decidable.not_not, gt_iff_lt, ge_iff_le] at hn) <;> (try (exfalso; omega)) <;> (refine Todo.of ?_)) | (((with_reducible refine dwp_condA ?_ ?_ ?_); · rfl) <;> (refine Todo.of ?_)))) <;> (try (first | (with_reducible rfl) | exact Nat.le_refl _ | exact Int.le_refl _ | assumption | omega))
noncomputable def s_Itoa9 : List DV → Prop × DV := spec1 eI fun n => (ok9 n, .str [dig n])
theorem s_Itoa9_at (n : Int) : s_Itoa9 [.int .i64 n] = (ok9 n, .str [dig n]) := spec1_at inj_I _ n
def baseT (l : List En) (t : Ty) : List UInt8 := if t.k = 3 then (l.getD t.e.toNat default).name else if t.k = 2 then [98, 111, 111, 108] else [105, 110, 116]
def textT (l : List En) (t : Ty) : List UInt8 := if rightTy l t then (if 0 < t.n then baseT l t ++ [91, dig t.n, 93] else baseT l t) else []
def okNm (l : List En) : Prop := ∀ x ∈ l, x.name.length ≤ 1000000000
theorem okNm_at {l : List En} (h : okNm l) (j : Nat) : (l.getD j default).name.length ≤ 1000000000 := by
  by_cases hj : j < l.length
  · have : l.getD j default = l[j] := by simp [hj]
    rw [this]; exact h _ (List.getElem_mem hj)
  · have : l.getD j default = default := by simp [hj]
    rw [this]; exact Nat.zero_le _
noncomputable def s_TextT : List DV → Prop × DV := spec2 eEns eTy fun l t => (okNm l, .str (textT l t))
theorem s_TextT_at (l : List En) (t : Ty) : s_TextT [.sl (l.map cEn), .agg (cTy t)] = (okNm l, .str (textT l t)) := spec2_at inj_Ens inj_Ty _ l t
theorem textT_no {l : List En} {t : Ty} (h : rightTy l t = false) : textT l t = [] := by simp [textT, h]
theorem right_b {l : List En} {t : Ty} (h : rightTy l t = true) : 1 ≤ t.k ∧ t.k ≤ 3 ∧ ok9 t.n := by
  simp only [rightTy, Bool.and_eq_true, decide_eq_true_eq] at h
  exact ⟨h.1.1.1.1, h.1.1.1.2, h.1.1.2, by omega⟩
end Go.Proofs.YtaoabkpfidbogaaDoor

/- Constructors, one after the other; whose one is. -/
set_option linter.all false
set_option maxRecDepth 20000
namespace Go.Proofs.YtaoabkpfidbogaaDoor
open Go.Nk

theorem at_of_drop {α : Type} {l : List α} {n : Nat} {x : α} {r : List α} (h : l.drop n = x :: r) : l[n]? = some x ∧ l.drop (n + 1) = r ∧ n + 1 ≤ l.length := by
  have hl : n < l.length := by
    rcases Nat.lt_or_ge n l.length with h1 | h1
    · exact h1
    · rw [List.drop_of_length_le h1] at h; cases h
  rw [List.drop_eq_getElem_cons hl] at h
  injection h with h1 h2
  exact ⟨by rw [← h1]; exact List.getElem?_eq_getElem hl, h2, hl⟩
theorem end_of_drop {α : Type} {l : List α} {n : Nat} (h : l.drop n = []) (hn : n ≤ l.length) : n = l.length := by
  have := List.drop_eq_nil_iff.1 h
  omega

abbrev Trio := Nat × Nat × List UInt8
def pairsC (i : Nat) : Nat → List (List UInt8) → List Trio
  | _, [] => []
  | k, c :: r => (i, k, c) :: pairsC i (k + 1) r
def pairsL : Nat → List En → List Trio
  | _, [] => []
  | i, e :: r => pairsC i 0 e.ct ++ pairsL (i + 1) r
def encT (x : Trio) : List DV := [.agg [.int .i64 x.1, .int .i64 x.2.1], .str x.2.2]
def okEn (l : List En) : Prop := l.length ≤ 1000000000 ∧ fewEn l
noncomputable def s_ctors1 : List DV → Prop × List (List DV) := specI (fun l : List En => [.ref [.sl (l.map cEn)]]) fun l => (okEn l, (pairsL 0 l).map encT)
theorem inj_ctors1 : InjL (fun l : List En => [DV.ref [.sl (l.map cEn)]]) := fun x y h => by
  injection h with h _
  injection h with h
  injection h with h _
  injection h with h
  exact map_inj cEn_inj _ _ h
theorem s_ctors1_at (l : List En) : s_ctors1 [.ref [.sl (l.map cEn)]] = (okEn l, (pairsL 0 l).map encT) := specI_at inj_ctors1 _ l
def ctorF (name : List UInt8) : List Trio → Int × Int × Bool
  | [] => (0, 0, false)
  | (i, k, c) :: r => if c = name then (i, k, true) else ctorF name r
def ctorV (x : Int × Int × Bool) : DV := .tup [.int .i64 x.1, .int .i64 x.2.1, .bool x.2.2]
noncomputable def s_Ctor : List DV → Prop × DV := spec2 eEns eS fun l n => (okEn l, ctorV (ctorF n (pairsL 0 l)))
theorem s_Ctor_at (l : List En) (n : List UInt8) : s_Ctor [.sl (l.map cEn), .str n] = (okEn l, ctorV (ctorF n (pairsL 0 l))) := spec2_at inj_Ens inj_S _ l n
noncomputable def s_liveT : List DV → Prop × DV := spec0 (True, .bool true)
theorem s_liveT_at : s_liveT [] = (True, .bool true) := spec0_at _
end Go.Proofs.YtaoabkpfidbogaaDoor

