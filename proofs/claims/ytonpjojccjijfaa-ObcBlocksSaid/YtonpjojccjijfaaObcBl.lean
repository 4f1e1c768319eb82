/- ObcBlocks at the data level; of every arguments. -/
import Derived.Test.YtonpjojccjijfaaObcCl
import Derived.Test.YtonpjojccjijfaaObc9
set_option linter.all false
set_option maxRecDepth 20000
namespace Go.Proofs.Ytonpjojccjijfaa
open Go.Nk

theorem flat_len (n : Nat) : ∀ l : List Blk, (∀ b ∈ l, b.body.length ≤ n) → (flatF l).length ≤ l.length * n
  | [], _ => by simp [flatF]
  | b :: l, h => by
    have := flat_len n l fun x hx => h x (by simp [hx])
    have hb := h b (by simp)
    have e : (flatF (b :: l)).length = b.body.length + (flatF l).length := by simp [flatF, flB]
    rw [e, List.length_cons, Nat.add_mul]
    omega
theorem blks_ok {c : Cls} (hb : c.body.length ≤ 120) : okF (blksF c) ∧ (blksF c).length ≤ 120 := by
  have hg : (grpF c.body).length ≤ c.body.length := by have := gFrom_len c.body c.body.length 0 0 []; simp at this; unfold grpF; omega
  have hl : (blksF c).length ≤ 120 := by unfold blksF; rw [List.length_map]; omega
  have ho : ∀ b ∈ blksF c, b.body.length ≤ 120 := fun b hb' => by
    obtain ⟨g, hg', rfl⟩ := List.mem_map.1 hb'
    have := (grpF_ok c.body g hg').2.1
    simp only [blkF, List.length_map]
    omega
  have hf := flat_len 120 _ ho
  have h2 : (blksF c).length * 120 ≤ 120 * 120 := Nat.mul_le_mul_right _ hl
  exact ⟨⟨by omega, by omega, fun b hb' => by have := ho b hb'; omega⟩, hl⟩
theorem bare_w {on : List SN} {s : Stmt} (h : wStmt s) (ho : lw any on) : wStmt (bareS on s) := ⟨h.1, h.2.1, h.2.2.1, ho⟩
theorem blks_w {c : Cls} (hb : c.body.length ≤ 120) (hw : ∀ s ∈ c.body, wStmt s) : lw wBlk (blksF c) := by
  refine ⟨by have := (blks_ok hb).2; omega, fun b hb' => ?_⟩
  obtain ⟨g, hg', rfl⟩ := List.mem_map.1 hb'
  obtain ⟨g1, g2, g3⟩ := grpF_ok c.body g hg'
  cases g with
  | nil => exact absurd rfl g1
  | cons s g =>
    refine ⟨(hw s (g3 s (by simp))).2.2.2, by simp only [blkF, List.length_map]; omega, fun t ht => ?_⟩
    obtain ⟨u, hu, rfl⟩ := List.mem_map.1 ht
    exact bare_w (hw u (g3 u hu)) ⟨by simp, by simp⟩
theorem flat_w {c : Cls} (hb : c.body.length ≤ 120) (hw : ∀ s ∈ c.body, wStmt s) : lw wStmt (flatF (blksF c)) := by
  refine ⟨by have := (blks_ok hb).1.1; omega, fun t ht => ?_⟩
  obtain ⟨b, hb', ht⟩ := List.mem_flatMap.1 ht
  obtain ⟨u, hu, rfl⟩ := List.mem_map.1 ht
  have := (blks_w hb hw).2 b hb'
  exact bare_w (this.2.2 u hu) this.1
theorem sameBlks_at {l : List Blk} (h : lw wBlk l) : specE (eL cBlk) (lw wBlk) [.sl (l.map cBlk), .sl (l.map cBlk)] = (True, .bool true) := specE_at (eL cBlk) h

theorem blocks_run (f : Flow) (hw : wFlow f) :
    dwp (Orc.of [(5, s_live), (6, s_few), (11, s_Class), (12, s_Blocks), (14, s_Blocks), (13, specE (eL cBlk) (lw wBlk)), (16, s_Flat), (17, s_Flat), (15, specE (eL cStmt) (lw wStmt))] []) 0 d_norialaw25_ObcBlocks.code (EndP d_norialaw25_ObcBlocks.res (.bool true)) ⟨frameFrom 0 [.agg (cFlow f)], []⟩ := by
  have e0 := s_few_at f
  rw [eq_true hw] at e0
  
  cases hq : fewF f with
  | false => (have hcondQ := Bool.and_self; refine Todo.of ?_); (repeat' (first | ((with_reducible refine Todo.to ?_); (repeat (first | (simp only [↓rP, rT, rU, eI, eU, eB, eS, eBs, eL, eA, buildCells, sepsD, sepB, hdl, dvalX, DOp.kind, dval, frameFrom, dBin, dInt, dStr, dBeq, dUn, dLoad, cellsAt, retV, retL, DR.val, fzT, fzVs, fzV, fz1, DV.immB, IntKind.bits, dCallP, viewVs, viewV, view1, capVL, capV, viewL, noMemV, noMem, elemsOf, dAppend, dAppz, dStore, DV.one, alive, freezeAt, fzLL, fzL, bRow, bU, cellsOf, setFrom, DV.isU, lenMax, lenCap, Nat.reduceEqDiff, Nat.reduceAdd, ↓reduceIte, reduceCtorEq, Nat.reduceSub, Int.reduceToNat, Int.reducePow, Nat.reducePow, Int.reduceLE, Int.reduceLT, Nat.reduceLeDiff, Nat.reduceLT, Int.reduceBEq, Int.reduceBNe, Int.reduceEq, Int.reduceNe, Int.reduceAdd, Int.reduceSub, Int.reduceMul, Int.reduceNeg, Int.reduceTDiv, Int.reduceTMod, Int.reduceMod, Int.reduceDiv, Nat.reduceMul, forall_const, implies_true, d_norialaw25_ObcBlocks, e0, hq, s_live_at , hcondQ]) | (simp (disch := omega) only [i64_id, u64_id, u8_id, getD_map'])))) | ((with_reducible refine And.intro ?_ ?_); · first | trivial | omega | (simp; done) | (simp; omega)) | ((first | ((with_reducible refine dwp_condI (t := ?_) ?_ (fun hcQ => ?_) (fun hcQ => ?_)); rotate_left; · rfl) | ((with_reducible refine dops_guardI (t := ?_) ?_ (fun hcQ => ?_) (fun hcQ => ?_)); rotate_left; · rfl)) <;> (have hn := hcQ; have hcondQ := hcQ) <;> (try simp only [decide_eq_true_eq, decide_eq_false_iff_not, beq_iff_eq, bne_iff_ne, ne_eq, Bool.and_eq_true, Bool.or_eq_true, Bool.not_eq_true, Bool.not_eq_false, beq_eq_false_iff_ne, bne_eq_false_iff_eq, Bool.not_eq_true', Bool.not_eq_false', Int.ofNat_lt, Int.ofNat_le, Bool.or_eq_false_iff, Bool.and_eq_false_imp, Decidable.not_not, gt_iff_lt, ge_iff_le] at hn) <;> (try (exfalso; omega)) <;> (refine Todo.of ?_)) | (((with_reducible refine dwp_condA ?_ ?_ ?_); · rfl) <;> (refine Todo.of ?_)))) <;> (try (first | (with_reducible rfl) | exact Nat.le_refl _ | exact Int.le_refl _ | assumption | omega))
  | true =>
    have h60 : f.eqs.length ≤ 60 := by
      simp only [fewF, Bool.and_eq_true, decide_eq_true_eq] at hq
      exact hq.2
    have e1 := s_Class_at f
    rw [eq_true (few_ok hq)] at e1
    have wc := clsF_w hw hq
    have hb : (clsF f).body.length ≤ 120 := by
      have := List.length_filter_le isF f.eqs
      simp [clsF]
      omega
    have e2 := s_Blocks_at (clsF f)
    rw [eq_true (show okB (clsF f) from ⟨by omega, wc.2.2.2.2⟩)] at e2
    have e3 := sameBlks_at (blks_w hb wc.2.2.2.2)
    have e4 := s_Flat_at (blksF (clsF f))
    rw [eq_true (blks_ok hb).1] at e4
    have e5 := stmts_at (flat_w hb wc.2.2.2.2)
    generalize clsF f = c at *
    obtain ⟨n, i, o, v, b⟩ := c
    (have hcondQ := Bool.and_self; refine Todo.of ?_); (repeat' (first | ((with_reducible refine Todo.to ?_); (repeat (first | (simp only [↓rP, rT, rU, eI, eU, eB, eS, eBs, eL, eA, buildCells, sepsD, sepB, hdl, dvalX, DOp.kind, dval, frameFrom, dBin, dInt, dStr, dBeq, dUn, dLoad, cellsAt, retV, retL, DR.val, fzT, fzVs, fzV, fz1, DV.immB, IntKind.bits, dCallP, viewVs, viewV, view1, capVL, capV, viewL, noMemV, noMem, elemsOf, dAppend, dAppz, dStore, DV.one, alive, freezeAt, fzLL, fzL, bRow, bU, cellsOf, setFrom, DV.isU, lenMax, lenCap, Nat.reduceEqDiff, Nat.reduceAdd, ↓reduceIte, reduceCtorEq, Nat.reduceSub, Int.reduceToNat, Int.reducePow, Nat.reducePow, Int.reduceLE, Int.reduceLT, Nat.reduceLeDiff, Nat.reduceLT, Int.reduceBEq, Int.reduceBNe, Int.reduceEq, Int.reduceNe, Int.reduceAdd, Int.reduceSub, Int.reduceMul, Int.reduceNeg, Int.reduceTDiv, Int.reduceTMod, Int.reduceMod, Int.reduceDiv, Nat.reduceMul, forall_const, implies_true, d_norialaw25_ObcBlocks, e0, hq, e1, e2, e3, e4, e5, s_live_at , hcondQ]) | (simp (disch := omega) only [i64_id, u64_id, u8_id, getD_map'])))) | ((with_reducible refine And.intro ?_ ?_); · first | trivial | omega | (simp; done) | (simp; omega)) | ((first | ((with_reducible refine dwp_condI (t := ?_) ?_ (fun hcQ => ?_) (fun hcQ => ?_)); rotate_left; · rfl) | ((with_reducible refine dops_guardI (t := ?_) ?_ (fun hcQ => ?_) (fun hcQ => ?_)); rotate_left; · rfl)) <;> (have hn := hcQ; have hcondQ := hcQ) <;> (try simp only [decide_eq_true_eq, decide_eq_false_iff_not, beq_iff_eq, bne_iff_ne, ne_eq, Bool.and_eq_true, Bool.or_eq_true, Bool.not_eq_true, Bool.not_eq_false, beq_eq_false_iff_ne, bne_eq_false_iff_eq, Bool.not_eq_true', Bool.not_eq_false', Int.ofNat_lt, Int.ofNat_le, Bool.or_eq_false_iff, Bool.and_eq_false_imp, Decidable.not_not, gt_iff_lt, ge_iff_le] at hn) <;> (try (exfalso; omega)) <;> (refine Todo.of ?_)) | (((with_reducible refine dwp_condA ?_ ?_ ?_); · rfl) <;> (refine Todo.of ?_)))) <;> (try (first | (with_reducible rfl) | exact Nat.le_refl _ | exact Int.le_refl _ | assumption | omega))

theorem obcBlocks_tells (dvs : List DV) (h : HasAll Try.prog [31] dvs) : TellsP Try.prog 4 dvs (.bool true) := by
  obtain ⟨d1, r, rfl, h1, rfl⟩ := h
  obtain ⟨x, rfl, hx⟩ := HasV_agg (by kernel_rfl) reads_Flow h1
  exact (tellsP_of (of_ok (ps := [(5, s_live), (6, s_few), (11, s_Class), (12, s_Blocks), (14, s_Blocks), (13, specE (eL cBlk) (lw wBlk)), (16, s_Flat), (17, s_Flat), (15, specE (eL cStmt) (lw wStmt))]) (hs := [])
    ⟨ok_live, ok_Few, ok_ref_Class, ok_ref_Blocks, ok_obc_Blocks, ok_noriaref25_SameBlocks, ok_obc_Flat, ok_ref_Flat, ok_noriaref25_Stmts, trivial⟩ trivial) (dargs := [.agg (cFlow x)]) m_norialaw25_ObcBlocks (blocks_run x hx)).2
end Go.Proofs.Ytonpjojccjijfaa
