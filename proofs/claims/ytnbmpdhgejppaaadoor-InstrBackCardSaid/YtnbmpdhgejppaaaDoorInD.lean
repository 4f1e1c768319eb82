/- Instructions: which may be; their texts. -/
import Derived.Test.YtnbmpdhgejppaaaDoorShA
import Derived.Test.YtnbmpdhgejppaaaDoorDgI
set_option linter.all false
set_option maxRecDepth 20000
namespace Go.Proofs.YtnbmpdhgejppaaaDoor
open Go.Nk

structure In4 where
  op : Int
  a : Int
  b : Int
  n : Int
  deriving DecidableEq
instance : Inhabited In4 := ⟨⟨0, 0, 0, 0⟩⟩
@[reducible] def cIn (x : In4) : List DV := [.int .i64 x.op, .int .i64 x.a, .int .i64 x.b, .int .i64 x.n]
theorem cIn_inj : ∀ x y, cIn x = cIn y → x = y := fun x y h => by
  obtain ⟨a, b, c, d⟩ := x; obtain ⟨a', b', c', d'⟩ := y
  simp only [cIn, List.cons.injEq, DV.int.injEq, true_and, and_true] at h
  obtain ⟨rfl, rfl, rfl, rfl⟩ := h
  rfl
abbrev eIn4 : In4 → DV := eA cIn
theorem inj_In4 : Inj eIn4 := inj_A cIn_inj
abbrev eIn4s : List In4 → DV := eL cIn
theorem inj_In4s : Inj eIn4s := inj_L cIn_inj
theorem in_rowsT (l : List In4) : (∀ e ∈ l.map cIn, e.length = 4) = True := eq_true (by simp)
theorem in_tk0 (l : List In4) : (l.map cIn).take l.length = l.map cIn := List.take_of_length_le (by rw [List.length_map]; exact Nat.le_refl _)
/-- Which kinds there are. -/
def okOp (op : Int) : Prop := op = 1 ∨ op = 2 ∨ op = 3 ∨ op = 4 ∨ op = 5 ∨ op = 6 ∨ op = 7 ∨ op = 8 ∨ op = 9 ∨ op = 10
structure noOp (op : Int) : Prop where
  n1 : (op == 1) = false
  n2 : (op == 2) = false
  n3 : (op == 3) = false
  n4 : (op == 4) = false
  n5 : (op == 5) = false
  n6 : (op == 6) = false
  n7 : (op == 7) = false
  n8 : (op == 8) = false
  n9 : (op == 9) = false
  n10 : (op == 10) = false
theorem opCases (op : Int) : noOp op ∨ okOp op := by
  by_cases h : okOp op
  · exact .inr h
  · unfold okOp at h
    simp only [not_or] at h
    obtain ⟨h1, h2, h3, h4, h5, h6, h7, h8, h9, h10⟩ := h
    refine .inl ⟨?_, ?_, ?_, ?_, ?_, ?_, ?_, ?_, ?_, ?_⟩ <;> simpa using ‹_›
structure Fm where
  nm : List UInt8
  w : Bool
  s : Bool
  b : Bool
  n : Bool
  ok : Bool
def fmI (op : Int) : Fm :=
  if op = 1 then ⟨[112, 117, 115, 104], true, false, false, true, true⟩ else
  if op = 2 then ⟨[108, 111, 97, 100], true, false, false, false, true⟩ else
  if op = 3 then ⟨[115, 116, 111, 114, 101], true, false, false, false, true⟩ else
  if op = 4 then ⟨[117, 110], false, true, false, false, true⟩ else
  if op = 5 then ⟨[98, 105, 110], false, true, false, false, true⟩ else
  if op = 6 then ⟨[106, 117, 109, 112], true, false, false, false, true⟩ else
  if op = 7 then ⟨[122, 101, 114, 111], true, false, false, false, true⟩ else
  if op = 8 then ⟨[103, 101, 116], true, false, true, false, true⟩ else
  if op = 9 then ⟨[112, 117, 116], true, false, true, false, true⟩ else
  if op = 10 then ⟨[104, 97, 108, 116], false, false, false, false, true⟩ else ⟨[], false, false, false, false, false⟩
theorem fmI_no {op : Int} (h : noOp op) : fmI op = ⟨[], false, false, false, false, false⟩ := by
  obtain ⟨h1, h2, h3, h4, h5, h6, h7, h8, h9, h10⟩ := h
  simp only [beq_eq_false_iff_ne] at h1 h2 h3 h4 h5 h6 h7 h8 h9 h10
  unfold fmI
  rw [if_neg h1, if_neg h2, if_neg h3, if_neg h4, if_neg h5, if_neg h6, if_neg h7, if_neg h8, if_neg h9, if_neg h10]
@[reducible] def fmV (f : Fm) : DV := .tup [.agg [.str f.nm, .bool f.w, .bool f.s, .bool f.b, .bool f.n], .bool f.ok]
noncomputable def s_of : List DV → Prop × DV := spec1 eI fun op => (True, fmV (fmI op))
theorem s_of_at (op : Int) : s_of [.int .i64 op] = (True, fmV (fmI op)) := spec1_at inj_I _ op
set_option maxHeartbeats 1000000 in
theorem ok_instr_of : OkP Tryd.prog 18 s_of := by
  refine OkP.mk1 (ps := []) (hs := []) trivial trivial m_instr_of fun op _ => ?_
  rcases opCases op with h | rfl | rfl | rfl | rfl | rfl | rfl | rfl | rfl | rfl | rfl
  · rw [fmI_no h]
    (have hcondQ := Bool.and_self; refine Todo.of ?_); (repeat' (first | ((with_reducible refine Todo.to ?_); (repeat (first | (simp only [↓rP, rT, rU, eI, eU, eB, eS, eBs, eL, eA, buildCells, sepsD, sepB, hdl, dvalX, DOp.kind, dval, frameFrom, dBin, dInt, dStr, dBeq, dUn, dLoad, cellsAt, retV, retL, DR.val, fzT, fzVs, fzV, fz1, DV.immB, IntKind.bits, dCallP, viewVs, viewV, view1, capVL, capV, viewL, noMemV, noMem, elemsOf, dAppend, dAppz, dStore, DV.one, alive, freezeAt, fzLL, fzL, bRow, bU, cellsOf, setFrom, DV.isU, lenMax, lenCap, Nat.reduceEqDiff, Nat.reduceAdd, ↓reduceIte, reduceCtorEq, Nat.reduceSub, Int.reduceToNat, Int.reducePow, Nat.reducePow, Int.reduceLE, Int.reduceLT, Nat.reduceLeDiff, Nat.reduceLT, Int.reduceBEq, Int.reduceBNe, Int.reduceEq, Int.reduceNe, Int.reduceAdd, Int.reduceSub, Int.reduceMul, Int.reduceNeg, Int.reduceTDiv, Int.reduceTMod, Int.reduceMod, Int.reduceDiv, Nat.reduceMul, forall_const, implies_true, d_instr_of, eIls, eIn4, eIn4s, eRows, eSs, eY, sls_len, ils_len, ils_rowsT, sls_rowsT, sls_tk0, ils_tk0, in_rowsT, in_tk0, h.n1, h.n2, h.n3, h.n4, h.n5, h.n6, h.n7, h.n8, h.n9, h.n10 , hcondQ]) | (simp (disch := omega) only [i64_id, u64_id, u8_id, getD_map'])))) | ((with_reducible refine And.intro ?_ ?_); · first | trivial | omega | (simp; done) | (simp; omega)) | ((first | ((with_reducible refine dwp_condI (t := ?_) ?_ (fun hcQ => ?_) (fun hcQ => ?_)); rotate_left; · rfl) | ((with_reducible refine dops_guardI (t := ?_) ?_ (fun hcQ => ?_) (fun hcQ => ?_)); rotate_left; · rfl)) <;> (have hn := hcQ; have hcondQ := hcQ) <;> (try simp only [decide_eq_true_eq, decide_eq_false_iff_not, beq_iff_eq, bne_iff_ne, ne_eq, Bool.and_eq_true, Bool.or_eq_true, Bool.not_eq_true, Bool.not_eq_false, beq_eq_false_iff_ne, bne_eq_false_iff_eq, Bool.not_eq_true', Bool.not_eq_false', Int.ofNat_lt, Int.ofNat_le, Bool.or_eq_false_iff, Bool.and_eq_false_imp, Decidable.not_not, gt_iff_lt, ge_iff_le] at hn) <;> (try (exfalso; omega)) <;> (refine Todo.of ?_)) | (((with_reducible refine dwp_condA ?_ ?_ ?_); · rfl) <;> (refine Todo.of ?_)))) <;> (try (first | (with_reducible rfl) | exact Nat.le_refl _ | exact Int.le_refl _ | assumption | omega))
  all_goals (have hcondQ := Bool.and_self; refine Todo.of ?_); (repeat' (first | ((with_reducible refine Todo.to ?_); (repeat (first | (simp only [↓rP, rT, rU, eI, eU, eB, eS, eBs, eL, eA, buildCells, sepsD, sepB, hdl, dvalX, DOp.kind, dval, frameFrom, dBin, dInt, dStr, dBeq, dUn, dLoad, cellsAt, retV, retL, DR.val, fzT, fzVs, fzV, fz1, DV.immB, IntKind.bits, dCallP, viewVs, viewV, view1, capVL, capV, viewL, noMemV, noMem, elemsOf, dAppend, dAppz, dStore, DV.one, alive, freezeAt, fzLL, fzL, bRow, bU, cellsOf, setFrom, DV.isU, lenMax, lenCap, Nat.reduceEqDiff, Nat.reduceAdd, ↓reduceIte, reduceCtorEq, Nat.reduceSub, Int.reduceToNat, Int.reducePow, Nat.reducePow, Int.reduceLE, Int.reduceLT, Nat.reduceLeDiff, Nat.reduceLT, Int.reduceBEq, Int.reduceBNe, Int.reduceEq, Int.reduceNe, Int.reduceAdd, Int.reduceSub, Int.reduceMul, Int.reduceNeg, Int.reduceTDiv, Int.reduceTMod, Int.reduceMod, Int.reduceDiv, Nat.reduceMul, forall_const, implies_true, d_instr_of, eIls, eIn4, eIn4s, eRows, eSs, eY, sls_len, ils_len, ils_rowsT, sls_rowsT, sls_tk0, ils_tk0, in_rowsT, in_tk0 , hcondQ]) | (simp (disch := omega) only [i64_id, u64_id, u8_id, getD_map'])))) | ((with_reducible refine And.intro ?_ ?_); · first | trivial | omega | (simp; done) | (simp; omega)) | ((first | ((with_reducible refine dwp_condI (t := ?_) ?_ (fun hcQ => ?_) (fun hcQ => ?_)); rotate_left; · rfl) | ((with_reducible refine dops_guardI (t := ?_) ?_ (fun hcQ => ?_) (fun hcQ => ?_)); rotate_left; · rfl)) <;> (have hn := hcQ; have hcondQ := hcQ) <;> (try simp only [decide_eq_true_eq, decide_eq_false_iff_not, beq_iff_eq, bne_iff_ne, ne_eq, Bool.and_eq_true, Bool.or_eq_true, Bool.not_eq_true, Bool.not_eq_false, beq_eq_false_iff_ne, bne_eq_false_iff_eq, Bool.not_eq_true', Bool.not_eq_false', Int.ofNat_lt, Int.ofNat_le, Bool.or_eq_false_iff, Bool.and_eq_false_imp, Decidable.not_not, gt_iff_lt, ge_iff_le] at hn) <;> (try (exfalso; omega)) <;> (refine Todo.of ?_)) | (((with_reducible refine dwp_condA ?_ ?_ ?_); · rfl) <;> (refine Todo.of ?_)))) <;> (try (first | (with_reducible rfl) | exact Nat.le_refl _ | exact Int.le_refl _ | assumption | omega))
  all_goals rfl
noncomputable def s_within : List DV → Prop × DV := spec3 eI eI eI fun n lo hi => (True, .bool (decide (lo ≤ n) && decide (n ≤ hi)))
theorem s_within_at (n : Int) (lo : Int) (hi : Int) : s_within [.int .i64 n, .int .i64 lo, .int .i64 hi] = (True, .bool (decide (lo ≤ n) && decide (n ≤ hi))) := spec3_at inj_I inj_I inj_I _ n lo hi
theorem ok_instr_within : OkP Tryd.prog 20 s_within := by
  refine OkP.mk3 (ps := []) (hs := []) trivial trivial m_instr_within fun n lo hi _ => ?_
  by_cases h : lo ≤ n
  · (have hcondQ := Bool.and_self; refine Todo.of ?_); (repeat' (first | ((with_reducible refine Todo.to ?_); (repeat (first | (simp only [↓rP, rT, rU, eI, eU, eB, eS, eBs, eL, eA, buildCells, sepsD, sepB, hdl, dvalX, DOp.kind, dval, frameFrom, dBin, dInt, dStr, dBeq, dUn, dLoad, cellsAt, retV, retL, DR.val, fzT, fzVs, fzV, fz1, DV.immB, IntKind.bits, dCallP, viewVs, viewV, view1, capVL, capV, viewL, noMemV, noMem, elemsOf, dAppend, dAppz, dStore, DV.one, alive, freezeAt, fzLL, fzL, bRow, bU, cellsOf, setFrom, DV.isU, lenMax, lenCap, Nat.reduceEqDiff, Nat.reduceAdd, ↓reduceIte, reduceCtorEq, Nat.reduceSub, Int.reduceToNat, Int.reducePow, Nat.reducePow, Int.reduceLE, Int.reduceLT, Nat.reduceLeDiff, Nat.reduceLT, Int.reduceBEq, Int.reduceBNe, Int.reduceEq, Int.reduceNe, Int.reduceAdd, Int.reduceSub, Int.reduceMul, Int.reduceNeg, Int.reduceTDiv, Int.reduceTMod, Int.reduceMod, Int.reduceDiv, Nat.reduceMul, forall_const, implies_true, d_instr_within, eIls, eIn4, eIn4s, eRows, eSs, eY, sls_len, ils_len, ils_rowsT, sls_rowsT, sls_tk0, ils_tk0, in_rowsT, in_tk0, h , hcondQ]) | (simp (disch := omega) only [i64_id, u64_id, u8_id, getD_map'])))) | ((with_reducible refine And.intro ?_ ?_); · first | trivial | omega | (simp; done) | (simp; omega)) | ((first | ((with_reducible refine dwp_condI (t := ?_) ?_ (fun hcQ => ?_) (fun hcQ => ?_)); rotate_left; · rfl) | ((with_reducible refine dops_guardI (t := ?_) ?_ (fun hcQ => ?_) (fun hcQ => ?_)); rotate_left; · rfl)) <;> (have hn := hcQ; have hcondQ := hcQ) <;> (try simp only [decide_eq_true_eq, decide_eq_false_iff_not, beq_iff_eq, bne_iff_ne, ne_eq, Bool.and_eq_true, Bool.or_eq_true, Bool.not_eq_true, Bool.not_eq_false, beq_eq_false_iff_ne, bne_eq_false_iff_eq, Bool.not_eq_true', Bool.not_eq_false', Int.ofNat_lt, Int.ofNat_le, Bool.or_eq_false_iff, Bool.and_eq_false_imp, Decidable.not_not, gt_iff_lt, ge_iff_le] at hn) <;> (try (exfalso; omega)) <;> (refine Todo.of ?_)) | (((with_reducible refine dwp_condA ?_ ?_ ?_); · rfl) <;> (refine Todo.of ?_)))) <;> (try (first | (with_reducible rfl) | exact Nat.le_refl _ | exact Int.le_refl _ | assumption | omega))
  · (have hcondQ := Bool.and_self; refine Todo.of ?_); (repeat' (first | ((with_reducible refine Todo.to ?_); (repeat (first | (simp only [↓rP, rT, rU, eI, eU, eB, eS, eBs, eL, eA, buildCells, sepsD, sepB, hdl, dvalX, DOp.kind, dval, frameFrom, dBin, dInt, dStr, dBeq, dUn, dLoad, cellsAt, retV, retL, DR.val, fzT, fzVs, fzV, fz1, DV.immB, IntKind.bits, dCallP, viewVs, viewV, view1, capVL, capV, viewL, noMemV, noMem, elemsOf, dAppend, dAppz, dStore, DV.one, alive, freezeAt, fzLL, fzL, bRow, bU, cellsOf, setFrom, DV.isU, lenMax, lenCap, Nat.reduceEqDiff, Nat.reduceAdd, ↓reduceIte, reduceCtorEq, Nat.reduceSub, Int.reduceToNat, Int.reducePow, Nat.reducePow, Int.reduceLE, Int.reduceLT, Nat.reduceLeDiff, Nat.reduceLT, Int.reduceBEq, Int.reduceBNe, Int.reduceEq, Int.reduceNe, Int.reduceAdd, Int.reduceSub, Int.reduceMul, Int.reduceNeg, Int.reduceTDiv, Int.reduceTMod, Int.reduceMod, Int.reduceDiv, Nat.reduceMul, forall_const, implies_true, d_instr_within, eIls, eIn4, eIn4s, eRows, eSs, eY, sls_len, ils_len, ils_rowsT, sls_rowsT, sls_tk0, ils_tk0, in_rowsT, in_tk0, h , hcondQ]) | (simp (disch := omega) only [i64_id, u64_id, u8_id, getD_map'])))) | ((with_reducible refine And.intro ?_ ?_); · first | trivial | omega | (simp; done) | (simp; omega)) | ((first | ((with_reducible refine dwp_condI (t := ?_) ?_ (fun hcQ => ?_) (fun hcQ => ?_)); rotate_left; · rfl) | ((with_reducible refine dops_guardI (t := ?_) ?_ (fun hcQ => ?_) (fun hcQ => ?_)); rotate_left; · rfl)) <;> (have hn := hcQ; have hcondQ := hcQ) <;> (try simp only [decide_eq_true_eq, decide_eq_false_iff_not, beq_iff_eq, bne_iff_ne, ne_eq, Bool.and_eq_true, Bool.or_eq_true, Bool.not_eq_true, Bool.not_eq_false, beq_eq_false_iff_ne, bne_eq_false_iff_eq, Bool.not_eq_true', Bool.not_eq_false', Int.ofNat_lt, Int.ofNat_le, Bool.or_eq_false_iff, Bool.and_eq_false_imp, Decidable.not_not, gt_iff_lt, ge_iff_le] at hn) <;> (try (exfalso; omega)) <;> (refine Todo.of ?_)) | (((with_reducible refine dwp_condA ?_ ?_ ?_); · rfl) <;> (refine Todo.of ?_)))) <;> (try (first | (with_reducible rfl) | exact Nat.le_refl _ | exact Int.le_refl _ | assumption | omega))
noncomputable def s_place : List DV → Prop × DV := spec1 eI fun n => (True, .bool (decide (0 ≤ n) && decide (n ≤ 65535)))
theorem s_place_at (n : Int) : s_place [.int .i64 n] = (True, .bool (decide (0 ≤ n) && decide (n ≤ 65535))) := spec1_at inj_I _ n
theorem ok_noriaref28_place : OkP Tryd.prog 21 s_place := by
  refine OkP.mk1 (ps := []) (hs := []) trivial trivial m_noriaref28_place fun n _ => ?_
  by_cases h : 0 ≤ n
  · (have hcondQ := Bool.and_self; refine Todo.of ?_); (repeat' (first | ((with_reducible refine Todo.to ?_); (repeat (first | (simp only [↓rP, rT, rU, eI, eU, eB, eS, eBs, eL, eA, buildCells, sepsD, sepB, hdl, dvalX, DOp.kind, dval, frameFrom, dBin, dInt, dStr, dBeq, dUn, dLoad, cellsAt, retV, retL, DR.val, fzT, fzVs, fzV, fz1, DV.immB, IntKind.bits, dCallP, viewVs, viewV, view1, capVL, capV, viewL, noMemV, noMem, elemsOf, dAppend, dAppz, dStore, DV.one, alive, freezeAt, fzLL, fzL, bRow, bU, cellsOf, setFrom, DV.isU, lenMax, lenCap, Nat.reduceEqDiff, Nat.reduceAdd, ↓reduceIte, reduceCtorEq, Nat.reduceSub, Int.reduceToNat, Int.reducePow, Nat.reducePow, Int.reduceLE, Int.reduceLT, Nat.reduceLeDiff, Nat.reduceLT, Int.reduceBEq, Int.reduceBNe, Int.reduceEq, Int.reduceNe, Int.reduceAdd, Int.reduceSub, Int.reduceMul, Int.reduceNeg, Int.reduceTDiv, Int.reduceTMod, Int.reduceMod, Int.reduceDiv, Nat.reduceMul, forall_const, implies_true, d_noriaref28_place, eIls, eIn4, eIn4s, eRows, eSs, eY, sls_len, ils_len, ils_rowsT, sls_rowsT, sls_tk0, ils_tk0, in_rowsT, in_tk0, h , hcondQ]) | (simp (disch := omega) only [i64_id, u64_id, u8_id, getD_map'])))) | ((with_reducible refine And.intro ?_ ?_); · first | trivial | omega | (simp; done) | (simp; omega)) | ((first | ((with_reducible refine dwp_condI (t := ?_) ?_ (fun hcQ => ?_) (fun hcQ => ?_)); rotate_left; · rfl) | ((with_reducible refine dops_guardI (t := ?_) ?_ (fun hcQ => ?_) (fun hcQ => ?_)); rotate_left; · rfl)) <;> (have hn := hcQ; have hcondQ := hcQ) <;> (try simp only [decide_eq_true_eq, decide_eq_false_iff_not, beq_iff_eq, bne_iff_ne, ne_eq, Bool.and_eq_true, Bool.or_eq_true, Bool.not_eq_true, Bool.not_eq_false, beq_eq_false_iff_ne, bne_eq_false_iff_eq, Bool.not_eq_true', Bool.not_eq_false', Int.ofNat_lt, Int.ofNat_le, Bool.or_eq_false_iff, Bool.and_eq_false_imp, Decidable.not_not, gt_iff_lt, ge_iff_le] at hn) <;> (try (exfalso; omega)) <;> (refine Todo.of ?_)) | (((with_reducible refine dwp_condA ?_ ?_ ?_); · rfl) <;> (refine Todo.of ?_)))) <;> (try (first | (with_reducible rfl) | exact Nat.le_refl _ | exact Int.le_refl _ | assumption | omega))
  · (have hcondQ := Bool.and_self; refine Todo.of ?_); (repeat' (first | ((with_reducible refine Todo.to ?_); (repeat (first | (simp only [↓rP, rT, rU, eI, eU, eB, eS, eBs, eL, eA, buildCells, sepsD, sepB, hdl, dvalX, DOp.kind, dval, frameFrom, dBin, dInt, dStr, dBeq, dUn, dLoad, cellsAt, retV, retL, DR.val, fzT, fzVs, fzV, fz1, DV.immB, IntKind.bits, dCallP, viewVs, viewV, view1, capVL, capV, viewL, noMemV, noMem, elemsOf, dAppend, dAppz, dStore, DV.one, alive, freezeAt, fzLL, fzL, bRow, bU, cellsOf, setFrom, DV.isU, lenMax, lenCap, Nat.reduceEqDiff, Nat.reduceAdd, ↓reduceIte, reduceCtorEq, Nat.reduceSub, Int.reduceToNat, Int.reducePow, Nat.reducePow, Int.reduceLE, Int.reduceLT, Nat.reduceLeDiff, Nat.reduceLT, Int.reduceBEq, Int.reduceBNe, Int.reduceEq, Int.reduceNe, Int.reduceAdd, Int.reduceSub, Int.reduceMul, Int.reduceNeg, Int.reduceTDiv, Int.reduceTMod, Int.reduceMod, Int.reduceDiv, Nat.reduceMul, forall_const, implies_true, d_noriaref28_place, eIls, eIn4, eIn4s, eRows, eSs, eY, sls_len, ils_len, ils_rowsT, sls_rowsT, sls_tk0, ils_tk0, in_rowsT, in_tk0, h , hcondQ]) | (simp (disch := omega) only [i64_id, u64_id, u8_id, getD_map'])))) | ((with_reducible refine And.intro ?_ ?_); · first | trivial | omega | (simp; done) | (simp; omega)) | ((first | ((with_reducible refine dwp_condI (t := ?_) ?_ (fun hcQ => ?_) (fun hcQ => ?_)); rotate_left; · rfl) | ((with_reducible refine dops_guardI (t := ?_) ?_ (fun hcQ => ?_) (fun hcQ => ?_)); rotate_left; · rfl)) <;> (have hn := hcQ; have hcondQ := hcQ) <;> (try simp only [decide_eq_true_eq, decide_eq_false_iff_not, beq_iff_eq, bne_iff_ne, ne_eq, Bool.and_eq_true, Bool.or_eq_true, Bool.not_eq_true, Bool.not_eq_false, beq_eq_false_iff_ne, bne_eq_false_iff_eq, Bool.not_eq_true', Bool.not_eq_false', Int.ofNat_lt, Int.ofNat_le, Bool.or_eq_false_iff, Bool.and_eq_false_imp, Decidable.not_not, gt_iff_lt, ge_iff_le] at hn) <;> (try (exfalso; omega)) <;> (refine Todo.of ?_)) | (((with_reducible refine dwp_condA ?_ ?_ ?_); · rfl) <;> (refine Todo.of ?_)))) <;> (try (first | (with_reducible rfl) | exact Nat.le_refl _ | exact Int.le_refl _ | assumption | omega))
def firstI (op a : Int) : Bool :=
  if op = 1 then decide (1 ≤ a) && decide (a ≤ 1000) else if op = 4 then a == 1 || a == 2 else if op = 5 then decide (3 ≤ a) && decide (a ≤ 16) else if op = 10 then a == 0 else decide (0 ≤ a) && decide (a ≤ 65535)
def rightI (x : In4) : Bool := (fmI x.op).ok && firstI x.op x.a && ((fmI x.op).n || x.n == 0) && (if (fmI x.op).b then decide (1 ≤ x.b) && decide (x.b ≤ 8) else x.b == 0)
noncomputable def s_first : List DV → Prop × DV := spec1 eIn4 fun x => (True, .bool (firstI x.op x.a))
theorem s_first_at (x : In4) : s_first [.agg (cIn x)] = (True, .bool (firstI x.op x.a)) := spec1_at inj_In4 _ x
set_option maxHeartbeats 1000000 in
theorem ok_instr_first : OkP Tryd.prog 19 s_first := by
  refine OkP.mk1 (ps := [(20, s_within)]) (hs := []) ⟨ok_instr_within, trivial⟩ trivial m_instr_first fun x _ => ?_
  obtain ⟨op, a, b, n⟩ := x
  rcases opCases op with h | rfl | rfl | rfl | rfl | rfl | rfl | rfl | rfl | rfl | rfl
  · have e : firstI op a = (decide (0 ≤ a) && decide (a ≤ 65535)) := by
      obtain ⟨h1, h2, h3, h4, h5, h6, h7, h8, h9, h10⟩ := h
      simp only [beq_eq_false_iff_ne] at h1 h2 h3 h4 h5 h6 h7 h8 h9 h10
      simp only [firstI, if_neg h1, if_neg h4, if_neg h5, if_neg h10]
    simp only [e]
    (have hcondQ := Bool.and_self; refine Todo.of ?_); (repeat' (first | ((with_reducible refine Todo.to ?_); (repeat (first | (simp only [↓rP, rT, rU, eI, eU, eB, eS, eBs, eL, eA, buildCells, sepsD, sepB, hdl, dvalX, DOp.kind, dval, frameFrom, dBin, dInt, dStr, dBeq, dUn, dLoad, cellsAt, retV, retL, DR.val, fzT, fzVs, fzV, fz1, DV.immB, IntKind.bits, dCallP, viewVs, viewV, view1, capVL, capV, viewL, noMemV, noMem, elemsOf, dAppend, dAppz, dStore, DV.one, alive, freezeAt, fzLL, fzL, bRow, bU, cellsOf, setFrom, DV.isU, lenMax, lenCap, Nat.reduceEqDiff, Nat.reduceAdd, ↓reduceIte, reduceCtorEq, Nat.reduceSub, Int.reduceToNat, Int.reducePow, Nat.reducePow, Int.reduceLE, Int.reduceLT, Nat.reduceLeDiff, Nat.reduceLT, Int.reduceBEq, Int.reduceBNe, Int.reduceEq, Int.reduceNe, Int.reduceAdd, Int.reduceSub, Int.reduceMul, Int.reduceNeg, Int.reduceTDiv, Int.reduceTMod, Int.reduceMod, Int.reduceDiv, Nat.reduceMul, forall_const, implies_true, d_instr_first, s_within_at, eIls, eIn4, eIn4s, eRows, eSs, eY, sls_len, ils_len, ils_rowsT, sls_rowsT, sls_tk0, ils_tk0, in_rowsT, in_tk0, h.n1, h.n2, h.n3, h.n4, h.n5, h.n6, h.n7, h.n8, h.n9, h.n10 , hcondQ]) | (simp (disch := omega) only [i64_id, u64_id, u8_id, getD_map'])))) | ((with_reducible refine And.intro ?_ ?_); · first | trivial | omega | (simp; done) | (simp; omega)) | ((first | ((with_reducible refine dwp_condI (t := ?_) ?_ (fun hcQ => ?_) (fun hcQ => ?_)); rotate_left; · rfl) | ((with_reducible refine dops_guardI (t := ?_) ?_ (fun hcQ => ?_) (fun hcQ => ?_)); rotate_left; · rfl)) <;> (have hn := hcQ; have hcondQ := hcQ) <;> (try simp only [decide_eq_true_eq, decide_eq_false_iff_not, beq_iff_eq, bne_iff_ne, ne_eq, Bool.and_eq_true, Bool.or_eq_true, Bool.not_eq_true, Bool.not_eq_false, beq_eq_false_iff_ne, bne_eq_false_iff_eq, Bool.not_eq_true', Bool.not_eq_false', Int.ofNat_lt, Int.ofNat_le, Bool.or_eq_false_iff, Bool.and_eq_false_imp, Decidable.not_not, gt_iff_lt, ge_iff_le] at hn) <;> (try (exfalso; omega)) <;> (refine Todo.of ?_)) | (((with_reducible refine dwp_condA ?_ ?_ ?_); · rfl) <;> (refine Todo.of ?_)))) <;> (try (first | (with_reducible rfl) | exact Nat.le_refl _ | exact Int.le_refl _ | assumption | omega))
  all_goals (have hcondQ := Bool.and_self; refine Todo.of ?_); (repeat' (first | ((with_reducible refine Todo.to ?_); (repeat (first | (simp only [↓rP, rT, rU, eI, eU, eB, eS, eBs, eL, eA, buildCells, sepsD, sepB, hdl, dvalX, DOp.kind, dval, frameFrom, dBin, dInt, dStr, dBeq, dUn, dLoad, cellsAt, retV, retL, DR.val, fzT, fzVs, fzV, fz1, DV.immB, IntKind.bits, dCallP, viewVs, viewV, view1, capVL, capV, viewL, noMemV, noMem, elemsOf, dAppend, dAppz, dStore, DV.one, alive, freezeAt, fzLL, fzL, bRow, bU, cellsOf, setFrom, DV.isU, lenMax, lenCap, Nat.reduceEqDiff, Nat.reduceAdd, ↓reduceIte, reduceCtorEq, Nat.reduceSub, Int.reduceToNat, Int.reducePow, Nat.reducePow, Int.reduceLE, Int.reduceLT, Nat.reduceLeDiff, Nat.reduceLT, Int.reduceBEq, Int.reduceBNe, Int.reduceEq, Int.reduceNe, Int.reduceAdd, Int.reduceSub, Int.reduceMul, Int.reduceNeg, Int.reduceTDiv, Int.reduceTMod, Int.reduceMod, Int.reduceDiv, Nat.reduceMul, forall_const, implies_true, d_instr_first, s_within_at, eIls, eIn4, eIn4s, eRows, eSs, eY, sls_len, ils_len, ils_rowsT, sls_rowsT, sls_tk0, ils_tk0, in_rowsT, in_tk0 , hcondQ]) | (simp (disch := omega) only [i64_id, u64_id, u8_id, getD_map'])))) | ((with_reducible refine And.intro ?_ ?_); · first | trivial | omega | (simp; done) | (simp; omega)) | ((first | ((with_reducible refine dwp_condI (t := ?_) ?_ (fun hcQ => ?_) (fun hcQ => ?_)); rotate_left; · rfl) | ((with_reducible refine dops_guardI (t := ?_) ?_ (fun hcQ => ?_) (fun hcQ => ?_)); rotate_left; · rfl)) <;> (have hn := hcQ; have hcondQ := hcQ) <;> (try simp only [decide_eq_true_eq, decide_eq_false_iff_not, beq_iff_eq, bne_iff_ne, ne_eq, Bool.and_eq_true, Bool.or_eq_true, Bool.not_eq_true, Bool.not_eq_false, beq_eq_false_iff_ne, bne_eq_false_iff_eq, Bool.not_eq_true', Bool.not_eq_false', Int.ofNat_lt, Int.ofNat_le, Bool.or_eq_false_iff, Bool.and_eq_false_imp, Decidable.not_not, gt_iff_lt, ge_iff_le] at hn) <;> (try (exfalso; omega)) <;> (refine Todo.of ?_)) | (((with_reducible refine dwp_condA ?_ ?_ ?_); · rfl) <;> (refine Todo.of ?_)))) <;> (try (first | (with_reducible rfl) | exact Nat.le_refl _ | exact Int.le_refl _ | assumption | omega))
  all_goals simp_all [firstI]
end Go.Proofs.YtnbmpdhgejppaaaDoor

/- Instructions: the document's; both sides' texts. -/
set_option linter.all false
set_option maxRecDepth 20000
namespace Go.Proofs.YtnbmpdhgejppaaaDoor
open Go.Nk

noncomputable def s_IRight : List DV → Prop × DV := spec1 eIn4 fun x => (True, .bool (rightI x))
theorem s_IRight_at (x : In4) : s_IRight [.agg (cIn x)] = (True, .bool (rightI x)) := spec1_at inj_In4 _ x
set_option maxHeartbeats 2000000 in
theorem ok_instr_Right : OkP Tryd.prog 8 s_IRight := by
  refine OkP.mk1 (ps := [(18, s_of), (19, s_first), (20, s_within)]) (hs := []) ⟨ok_instr_of, ok_instr_first, ok_instr_within, trivial⟩ trivial m_instr_Right fun x _ => ?_
  obtain ⟨op, a, b, n⟩ := x
  have e1 := s_of_at op
  have e2 := s_first_at ⟨op, a, b, n⟩
  simp only [fmV] at e1
  simp only [cIn] at e2
  generalize hf : fmI op = f at e1
  have hr : rightI ⟨op, a, b, n⟩ = (f.ok && firstI op a && (f.n || n == 0) && (if f.b then decide (1 ≤ b) && decide (b ≤ 8) else b == 0)) := by rw [← hf]; rfl
  rw [hr]
  obtain ⟨nm, w, s, fb, fn, ok⟩ := f
  generalize firstI op a = r at e2
  cases ok
  · (have hcondQ := Bool.and_self; refine Todo.of ?_); (repeat' (first | ((with_reducible refine Todo.to ?_); (repeat (first | (simp only [↓rP, rT, rU, eI, eU, eB, eS, eBs, eL, eA, buildCells, sepsD, sepB, hdl, dvalX, DOp.kind, dval, frameFrom, dBin, dInt, dStr, dBeq, dUn, dLoad, cellsAt, retV, retL, DR.val, fzT, fzVs, fzV, fz1, DV.immB, IntKind.bits, dCallP, viewVs, viewV, view1, capVL, capV, viewL, noMemV, noMem, elemsOf, dAppend, dAppz, dStore, DV.one, alive, freezeAt, fzLL, fzL, bRow, bU, cellsOf, setFrom, DV.isU, lenMax, lenCap, Nat.reduceEqDiff, Nat.reduceAdd, ↓reduceIte, reduceCtorEq, Nat.reduceSub, Int.reduceToNat, Int.reducePow, Nat.reducePow, Int.reduceLE, Int.reduceLT, Nat.reduceLeDiff, Nat.reduceLT, Int.reduceBEq, Int.reduceBNe, Int.reduceEq, Int.reduceNe, Int.reduceAdd, Int.reduceSub, Int.reduceMul, Int.reduceNeg, Int.reduceTDiv, Int.reduceTMod, Int.reduceMod, Int.reduceDiv, Nat.reduceMul, forall_const, implies_true, d_instr_Right, s_of_at, s_first_at, s_within_at, eIls, eIn4, eIn4s, eRows, eSs, eY, sls_len, ils_len, ils_rowsT, sls_rowsT, sls_tk0, ils_tk0, in_rowsT, in_tk0, e1 , hcondQ]) | (simp (disch := omega) only [i64_id, u64_id, u8_id, getD_map'])))) | ((with_reducible refine And.intro ?_ ?_); · first | trivial | omega | (simp; done) | (simp; omega)) | ((first | ((with_reducible refine dwp_condI (t := ?_) ?_ (fun hcQ => ?_) (fun hcQ => ?_)); rotate_left; · rfl) | ((with_reducible refine dops_guardI (t := ?_) ?_ (fun hcQ => ?_) (fun hcQ => ?_)); rotate_left; · rfl)) <;> (have hn := hcQ; have hcondQ := hcQ) <;> (try simp only [decide_eq_true_eq, decide_eq_false_iff_not, beq_iff_eq, bne_iff_ne, ne_eq, Bool.and_eq_true, Bool.or_eq_true, Bool.not_eq_true, Bool.not_eq_false, beq_eq_false_iff_ne, bne_eq_false_iff_eq, Bool.not_eq_true', Bool.not_eq_false', Int.ofNat_lt, Int.ofNat_le, Bool.or_eq_false_iff, Bool.and_eq_false_imp, Decidable.not_not, gt_iff_lt, ge_iff_le] at hn) <;> (try (exfalso; omega)) <;> (refine Todo.of ?_)) | (((with_reducible refine dwp_condA ?_ ?_ ?_); · rfl) <;> (refine Todo.of ?_)))) <;> (try (first | (with_reducible rfl) | exact Nat.le_refl _ | exact Int.le_refl _ | assumption | omega))
  cases r
  · (have hcondQ := Bool.and_self; refine Todo.of ?_); (repeat' (first | ((with_reducible refine Todo.to ?_); (repeat (first | (simp only [↓rP, rT, rU, eI, eU, eB, eS, eBs, eL, eA, buildCells, sepsD, sepB, hdl, dvalX, DOp.kind, dval, frameFrom, dBin, dInt, dStr, dBeq, dUn, dLoad, cellsAt, retV, retL, DR.val, fzT, fzVs, fzV, fz1, DV.immB, IntKind.bits, dCallP, viewVs, viewV, view1, capVL, capV, viewL, noMemV, noMem, elemsOf, dAppend, dAppz, dStore, DV.one, alive, freezeAt, fzLL, fzL, bRow, bU, cellsOf, setFrom, DV.isU, lenMax, lenCap, Nat.reduceEqDiff, Nat.reduceAdd, ↓reduceIte, reduceCtorEq, Nat.reduceSub, Int.reduceToNat, Int.reducePow, Nat.reducePow, Int.reduceLE, Int.reduceLT, Nat.reduceLeDiff, Nat.reduceLT, Int.reduceBEq, Int.reduceBNe, Int.reduceEq, Int.reduceNe, Int.reduceAdd, Int.reduceSub, Int.reduceMul, Int.reduceNeg, Int.reduceTDiv, Int.reduceTMod, Int.reduceMod, Int.reduceDiv, Nat.reduceMul, forall_const, implies_true, d_instr_Right, s_of_at, s_first_at, s_within_at, eIls, eIn4, eIn4s, eRows, eSs, eY, sls_len, ils_len, ils_rowsT, sls_rowsT, sls_tk0, ils_tk0, in_rowsT, in_tk0, e1, e2 , hcondQ]) | (simp (disch := omega) only [i64_id, u64_id, u8_id, getD_map'])))) | ((with_reducible refine And.intro ?_ ?_); · first | trivial | omega | (simp; done) | (simp; omega)) | ((first | ((with_reducible refine dwp_condI (t := ?_) ?_ (fun hcQ => ?_) (fun hcQ => ?_)); rotate_left; · rfl) | ((with_reducible refine dops_guardI (t := ?_) ?_ (fun hcQ => ?_) (fun hcQ => ?_)); rotate_left; · rfl)) <;> (have hn := hcQ; have hcondQ := hcQ) <;> (try simp only [decide_eq_true_eq, decide_eq_false_iff_not, beq_iff_eq, bne_iff_ne, ne_eq, Bool.and_eq_true, Bool.or_eq_true, Bool.not_eq_true, Bool.not_eq_false, beq_eq_false_iff_ne, bne_eq_false_iff_eq, Bool.not_eq_true', Bool.not_eq_false', Int.ofNat_lt, Int.ofNat_le, Bool.or_eq_false_iff, Bool.and_eq_false_imp, Decidable.not_not, gt_iff_lt, ge_iff_le] at hn) <;> (try (exfalso; omega)) <;> (refine Todo.of ?_)) | (((with_reducible refine dwp_condA ?_ ?_ ?_); · rfl) <;> (refine Todo.of ?_)))) <;> (try (first | (with_reducible rfl) | exact Nat.le_refl _ | exact Int.le_refl _ | assumption | omega))
  cases fn <;> cases fb
  · by_cases n0 : n = 0
    · have n1 : (n != 0) = false := by simp [n0]
      (have hcondQ := Bool.and_self; refine Todo.of ?_); (repeat' (first | ((with_reducible refine Todo.to ?_); (repeat (first | (simp only [↓rP, rT, rU, eI, eU, eB, eS, eBs, eL, eA, buildCells, sepsD, sepB, hdl, dvalX, DOp.kind, dval, frameFrom, dBin, dInt, dStr, dBeq, dUn, dLoad, cellsAt, retV, retL, DR.val, fzT, fzVs, fzV, fz1, DV.immB, IntKind.bits, dCallP, viewVs, viewV, view1, capVL, capV, viewL, noMemV, noMem, elemsOf, dAppend, dAppz, dStore, DV.one, alive, freezeAt, fzLL, fzL, bRow, bU, cellsOf, setFrom, DV.isU, lenMax, lenCap, Nat.reduceEqDiff, Nat.reduceAdd, ↓reduceIte, reduceCtorEq, Nat.reduceSub, Int.reduceToNat, Int.reducePow, Nat.reducePow, Int.reduceLE, Int.reduceLT, Nat.reduceLeDiff, Nat.reduceLT, Int.reduceBEq, Int.reduceBNe, Int.reduceEq, Int.reduceNe, Int.reduceAdd, Int.reduceSub, Int.reduceMul, Int.reduceNeg, Int.reduceTDiv, Int.reduceTMod, Int.reduceMod, Int.reduceDiv, Nat.reduceMul, forall_const, implies_true, d_instr_Right, s_of_at, s_first_at, s_within_at, eIls, eIn4, eIn4s, eRows, eSs, eY, sls_len, ils_len, ils_rowsT, sls_rowsT, sls_tk0, ils_tk0, in_rowsT, in_tk0, e1, e2, n1 , hcondQ]) | (simp (disch := omega) only [i64_id, u64_id, u8_id, getD_map'])))) | ((with_reducible refine And.intro ?_ ?_); · first | trivial | omega | (simp; done) | (simp; omega)) | ((first | ((with_reducible refine dwp_condI (t := ?_) ?_ (fun hcQ => ?_) (fun hcQ => ?_)); rotate_left; · rfl) | ((with_reducible refine dops_guardI (t := ?_) ?_ (fun hcQ => ?_) (fun hcQ => ?_)); rotate_left; · rfl)) <;> (have hn := hcQ; have hcondQ := hcQ) <;> (try simp only [decide_eq_true_eq, decide_eq_false_iff_not, beq_iff_eq, bne_iff_ne, ne_eq, Bool.and_eq_true, Bool.or_eq_true, Bool.not_eq_true, Bool.not_eq_false, beq_eq_false_iff_ne, bne_eq_false_iff_eq, Bool.not_eq_true', Bool.not_eq_false', Int.ofNat_lt, Int.ofNat_le, Bool.or_eq_false_iff, Bool.and_eq_false_imp, Decidable.not_not, gt_iff_lt, ge_iff_le] at hn) <;> (try (exfalso; omega)) <;> (refine Todo.of ?_)) | (((with_reducible refine dwp_condA ?_ ?_ ?_); · rfl) <;> (refine Todo.of ?_)))) <;> (try (first | (with_reducible rfl) | exact Nat.le_refl _ | exact Int.le_refl _ | assumption | omega))
      all_goals simp_all
    · have n1 : (n != 0) = true := by simpa using n0
      (have hcondQ := Bool.and_self; refine Todo.of ?_); (repeat' (first | ((with_reducible refine Todo.to ?_); (repeat (first | (simp only [↓rP, rT, rU, eI, eU, eB, eS, eBs, eL, eA, buildCells, sepsD, sepB, hdl, dvalX, DOp.kind, dval, frameFrom, dBin, dInt, dStr, dBeq, dUn, dLoad, cellsAt, retV, retL, DR.val, fzT, fzVs, fzV, fz1, DV.immB, IntKind.bits, dCallP, viewVs, viewV, view1, capVL, capV, viewL, noMemV, noMem, elemsOf, dAppend, dAppz, dStore, DV.one, alive, freezeAt, fzLL, fzL, bRow, bU, cellsOf, setFrom, DV.isU, lenMax, lenCap, Nat.reduceEqDiff, Nat.reduceAdd, ↓reduceIte, reduceCtorEq, Nat.reduceSub, Int.reduceToNat, Int.reducePow, Nat.reducePow, Int.reduceLE, Int.reduceLT, Nat.reduceLeDiff, Nat.reduceLT, Int.reduceBEq, Int.reduceBNe, Int.reduceEq, Int.reduceNe, Int.reduceAdd, Int.reduceSub, Int.reduceMul, Int.reduceNeg, Int.reduceTDiv, Int.reduceTMod, Int.reduceMod, Int.reduceDiv, Nat.reduceMul, forall_const, implies_true, d_instr_Right, s_of_at, s_first_at, s_within_at, eIls, eIn4, eIn4s, eRows, eSs, eY, sls_len, ils_len, ils_rowsT, sls_rowsT, sls_tk0, ils_tk0, in_rowsT, in_tk0, e1, e2, n1 , hcondQ]) | (simp (disch := omega) only [i64_id, u64_id, u8_id, getD_map'])))) | ((with_reducible refine And.intro ?_ ?_); · first | trivial | omega | (simp; done) | (simp; omega)) | ((first | ((with_reducible refine dwp_condI (t := ?_) ?_ (fun hcQ => ?_) (fun hcQ => ?_)); rotate_left; · rfl) | ((with_reducible refine dops_guardI (t := ?_) ?_ (fun hcQ => ?_) (fun hcQ => ?_)); rotate_left; · rfl)) <;> (have hn := hcQ; have hcondQ := hcQ) <;> (try simp only [decide_eq_true_eq, decide_eq_false_iff_not, beq_iff_eq, bne_iff_ne, ne_eq, Bool.and_eq_true, Bool.or_eq_true, Bool.not_eq_true, Bool.not_eq_false, beq_eq_false_iff_ne, bne_eq_false_iff_eq, Bool.not_eq_true', Bool.not_eq_false', Int.ofNat_lt, Int.ofNat_le, Bool.or_eq_false_iff, Bool.and_eq_false_imp, Decidable.not_not, gt_iff_lt, ge_iff_le] at hn) <;> (try (exfalso; omega)) <;> (refine Todo.of ?_)) | (((with_reducible refine dwp_condA ?_ ?_ ?_); · rfl) <;> (refine Todo.of ?_)))) <;> (try (first | (with_reducible rfl) | exact Nat.le_refl _ | exact Int.le_refl _ | assumption | omega))
      all_goals simp_all
  · by_cases n0 : n = 0
    · have n1 : (n != 0) = false := by simp [n0]
      (have hcondQ := Bool.and_self; refine Todo.of ?_); (repeat' (first | ((with_reducible refine Todo.to ?_); (repeat (first | (simp only [↓rP, rT, rU, eI, eU, eB, eS, eBs, eL, eA, buildCells, sepsD, sepB, hdl, dvalX, DOp.kind, dval, frameFrom, dBin, dInt, dStr, dBeq, dUn, dLoad, cellsAt, retV, retL, DR.val, fzT, fzVs, fzV, fz1, DV.immB, IntKind.bits, dCallP, viewVs, viewV, view1, capVL, capV, viewL, noMemV, noMem, elemsOf, dAppend, dAppz, dStore, DV.one, alive, freezeAt, fzLL, fzL, bRow, bU, cellsOf, setFrom, DV.isU, lenMax, lenCap, Nat.reduceEqDiff, Nat.reduceAdd, ↓reduceIte, reduceCtorEq, Nat.reduceSub, Int.reduceToNat, Int.reducePow, Nat.reducePow, Int.reduceLE, Int.reduceLT, Nat.reduceLeDiff, Nat.reduceLT, Int.reduceBEq, Int.reduceBNe, Int.reduceEq, Int.reduceNe, Int.reduceAdd, Int.reduceSub, Int.reduceMul, Int.reduceNeg, Int.reduceTDiv, Int.reduceTMod, Int.reduceMod, Int.reduceDiv, Nat.reduceMul, forall_const, implies_true, d_instr_Right, s_of_at, s_first_at, s_within_at, eIls, eIn4, eIn4s, eRows, eSs, eY, sls_len, ils_len, ils_rowsT, sls_rowsT, sls_tk0, ils_tk0, in_rowsT, in_tk0, e1, e2, n1 , hcondQ]) | (simp (disch := omega) only [i64_id, u64_id, u8_id, getD_map'])))) | ((with_reducible refine And.intro ?_ ?_); · first | trivial | omega | (simp; done) | (simp; omega)) | ((first | ((with_reducible refine dwp_condI (t := ?_) ?_ (fun hcQ => ?_) (fun hcQ => ?_)); rotate_left; · rfl) | ((with_reducible refine dops_guardI (t := ?_) ?_ (fun hcQ => ?_) (fun hcQ => ?_)); rotate_left; · rfl)) <;> (have hn := hcQ; have hcondQ := hcQ) <;> (try simp only [decide_eq_true_eq, decide_eq_false_iff_not, beq_iff_eq, bne_iff_ne, ne_eq, Bool.and_eq_true, Bool.or_eq_true, Bool.not_eq_true, Bool.not_eq_false, beq_eq_false_iff_ne, bne_eq_false_iff_eq, Bool.not_eq_true', Bool.not_eq_false', Int.ofNat_lt, Int.ofNat_le, Bool.or_eq_false_iff, Bool.and_eq_false_imp, Decidable.not_not, gt_iff_lt, ge_iff_le] at hn) <;> (try (exfalso; omega)) <;> (refine Todo.of ?_)) | (((with_reducible refine dwp_condA ?_ ?_ ?_); · rfl) <;> (refine Todo.of ?_)))) <;> (try (first | (with_reducible rfl) | exact Nat.le_refl _ | exact Int.le_refl _ | assumption | omega))
      all_goals simp_all
    · have n1 : (n != 0) = true := by simpa using n0
      (have hcondQ := Bool.and_self; refine Todo.of ?_); (repeat' (first | ((with_reducible refine Todo.to ?_); (repeat (first | (simp only [↓rP, rT, rU, eI, eU, eB, eS, eBs, eL, eA, buildCells, sepsD, sepB, hdl, dvalX, DOp.kind, dval, frameFrom, dBin, dInt, dStr, dBeq, dUn, dLoad, cellsAt, retV, retL, DR.val, fzT, fzVs, fzV, fz1, DV.immB, IntKind.bits, dCallP, viewVs, viewV, view1, capVL, capV, viewL, noMemV, noMem, elemsOf, dAppend, dAppz, dStore, DV.one, alive, freezeAt, fzLL, fzL, bRow, bU, cellsOf, setFrom, DV.isU, lenMax, lenCap, Nat.reduceEqDiff, Nat.reduceAdd, ↓reduceIte, reduceCtorEq, Nat.reduceSub, Int.reduceToNat, Int.reducePow, Nat.reducePow, Int.reduceLE, Int.reduceLT, Nat.reduceLeDiff, Nat.reduceLT, Int.reduceBEq, Int.reduceBNe, Int.reduceEq, Int.reduceNe, Int.reduceAdd, Int.reduceSub, Int.reduceMul, Int.reduceNeg, Int.reduceTDiv, Int.reduceTMod, Int.reduceMod, Int.reduceDiv, Nat.reduceMul, forall_const, implies_true, d_instr_Right, s_of_at, s_first_at, s_within_at, eIls, eIn4, eIn4s, eRows, eSs, eY, sls_len, ils_len, ils_rowsT, sls_rowsT, sls_tk0, ils_tk0, in_rowsT, in_tk0, e1, e2, n1 , hcondQ]) | (simp (disch := omega) only [i64_id, u64_id, u8_id, getD_map'])))) | ((with_reducible refine And.intro ?_ ?_); · first | trivial | omega | (simp; done) | (simp; omega)) | ((first | ((with_reducible refine dwp_condI (t := ?_) ?_ (fun hcQ => ?_) (fun hcQ => ?_)); rotate_left; · rfl) | ((with_reducible refine dops_guardI (t := ?_) ?_ (fun hcQ => ?_) (fun hcQ => ?_)); rotate_left; · rfl)) <;> (have hn := hcQ; have hcondQ := hcQ) <;> (try simp only [decide_eq_true_eq, decide_eq_false_iff_not, beq_iff_eq, bne_iff_ne, ne_eq, Bool.and_eq_true, Bool.or_eq_true, Bool.not_eq_true, Bool.not_eq_false, beq_eq_false_iff_ne, bne_eq_false_iff_eq, Bool.not_eq_true', Bool.not_eq_false', Int.ofNat_lt, Int.ofNat_le, Bool.or_eq_false_iff, Bool.and_eq_false_imp, Decidable.not_not, gt_iff_lt, ge_iff_le] at hn) <;> (try (exfalso; omega)) <;> (refine Todo.of ?_)) | (((with_reducible refine dwp_condA ?_ ?_ ?_); · rfl) <;> (refine Todo.of ?_)))) <;> (try (first | (with_reducible rfl) | exact Nat.le_refl _ | exact Int.le_refl _ | assumption | omega))
      all_goals simp_all
  · (have hcondQ := Bool.and_self; refine Todo.of ?_); (repeat' (first | ((with_reducible refine Todo.to ?_); (repeat (first | (simp only [↓rP, rT, rU, eI, eU, eB, eS, eBs, eL, eA, buildCells, sepsD, sepB, hdl, dvalX, DOp.kind, dval, frameFrom, dBin, dInt, dStr, dBeq, dUn, dLoad, cellsAt, retV, retL, DR.val, fzT, fzVs, fzV, fz1, DV.immB, IntKind.bits, dCallP, viewVs, viewV, view1, capVL, capV, viewL, noMemV, noMem, elemsOf, dAppend, dAppz, dStore, DV.one, alive, freezeAt, fzLL, fzL, bRow, bU, cellsOf, setFrom, DV.isU, lenMax, lenCap, Nat.reduceEqDiff, Nat.reduceAdd, ↓reduceIte, reduceCtorEq, Nat.reduceSub, Int.reduceToNat, Int.reducePow, Nat.reducePow, Int.reduceLE, Int.reduceLT, Nat.reduceLeDiff, Nat.reduceLT, Int.reduceBEq, Int.reduceBNe, Int.reduceEq, Int.reduceNe, Int.reduceAdd, Int.reduceSub, Int.reduceMul, Int.reduceNeg, Int.reduceTDiv, Int.reduceTMod, Int.reduceMod, Int.reduceDiv, Nat.reduceMul, forall_const, implies_true, d_instr_Right, s_of_at, s_first_at, s_within_at, eIls, eIn4, eIn4s, eRows, eSs, eY, sls_len, ils_len, ils_rowsT, sls_rowsT, sls_tk0, ils_tk0, in_rowsT, in_tk0, e1, e2 , hcondQ]) | (simp (disch := omega) only [i64_id, u64_id, u8_id, getD_map'])))) | ((with_reducible refine And.intro ?_ ?_); · first | trivial | omega | (simp; done) | (simp; omega)) | ((first | ((with_reducible refine dwp_condI (t := ?_) ?_ (fun hcQ => ?_) (fun hcQ => ?_)); rotate_left; · rfl) | ((with_reducible refine dops_guardI (t := ?_) ?_ (fun hcQ => ?_) (fun hcQ => ?_)); rotate_left; · rfl)) <;> (have hn := hcQ; have hcondQ := hcQ) <;> (try simp only [decide_eq_true_eq, decide_eq_false_iff_not, beq_iff_eq, bne_iff_ne, ne_eq, Bool.and_eq_true, Bool.or_eq_true, Bool.not_eq_true, Bool.not_eq_false, beq_eq_false_iff_ne, bne_eq_false_iff_eq, Bool.not_eq_true', Bool.not_eq_false', Int.ofNat_lt, Int.ofNat_le, Bool.or_eq_false_iff, Bool.and_eq_false_imp, Decidable.not_not, gt_iff_lt, ge_iff_le] at hn) <;> (try (exfalso; omega)) <;> (refine Todo.of ?_)) | (((with_reducible refine dwp_condA ?_ ?_ ?_); · rfl) <;> (refine Todo.of ?_)))) <;> (try (first | (with_reducible rfl) | exact Nat.le_refl _ | exact Int.le_refl _ | assumption | omega))
    all_goals simp_all
  · (have hcondQ := Bool.and_self; refine Todo.of ?_); (repeat' (first | ((with_reducible refine Todo.to ?_); (repeat (first | (simp only [↓rP, rT, rU, eI, eU, eB, eS, eBs, eL, eA, buildCells, sepsD, sepB, hdl, dvalX, DOp.kind, dval, frameFrom, dBin, dInt, dStr, dBeq, dUn, dLoad, cellsAt, retV, retL, DR.val, fzT, fzVs, fzV, fz1, DV.immB, IntKind.bits, dCallP, viewVs, viewV, view1, capVL, capV, viewL, noMemV, noMem, elemsOf, dAppend, dAppz, dStore, DV.one, alive, freezeAt, fzLL, fzL, bRow, bU, cellsOf, setFrom, DV.isU, lenMax, lenCap, Nat.reduceEqDiff, Nat.reduceAdd, ↓reduceIte, reduceCtorEq, Nat.reduceSub, Int.reduceToNat, Int.reducePow, Nat.reducePow, Int.reduceLE, Int.reduceLT, Nat.reduceLeDiff, Nat.reduceLT, Int.reduceBEq, Int.reduceBNe, Int.reduceEq, Int.reduceNe, Int.reduceAdd, Int.reduceSub, Int.reduceMul, Int.reduceNeg, Int.reduceTDiv, Int.reduceTMod, Int.reduceMod, Int.reduceDiv, Nat.reduceMul, forall_const, implies_true, d_instr_Right, s_of_at, s_first_at, s_within_at, eIls, eIn4, eIn4s, eRows, eSs, eY, sls_len, ils_len, ils_rowsT, sls_rowsT, sls_tk0, ils_tk0, in_rowsT, in_tk0, e1, e2 , hcondQ]) | (simp (disch := omega) only [i64_id, u64_id, u8_id, getD_map'])))) | ((with_reducible refine And.intro ?_ ?_); · first | trivial | omega | (simp; done) | (simp; omega)) | ((first | ((with_reducible refine dwp_condI (t := ?_) ?_ (fun hcQ => ?_) (fun hcQ => ?_)); rotate_left; · rfl) | ((with_reducible refine dops_guardI (t := ?_) ?_ (fun hcQ => ?_) (fun hcQ => ?_)); rotate_left; · rfl)) <;> (have hn := hcQ; have hcondQ := hcQ) <;> (try simp only [decide_eq_true_eq, decide_eq_false_iff_not, beq_iff_eq, bne_iff_ne, ne_eq, Bool.and_eq_true, Bool.or_eq_true, Bool.not_eq_true, Bool.not_eq_false, beq_eq_false_iff_ne, bne_eq_false_iff_eq, Bool.not_eq_true', Bool.not_eq_false', Int.ofNat_lt, Int.ofNat_le, Bool.or_eq_false_iff, Bool.and_eq_false_imp, Decidable.not_not, gt_iff_lt, ge_iff_le] at hn) <;> (try (exfalso; omega)) <;> (refine Todo.of ?_)) | (((with_reducible refine dwp_condA ?_ ?_ ?_); · rfl) <;> (refine Todo.of ?_)))) <;> (try (first | (with_reducible rfl) | exact Nat.le_refl _ | exact Int.le_refl _ | assumption | omega))
    all_goals simp_all
set_option maxHeartbeats 4000000 in
theorem ok_noriaref28_Right : OkP Tryd.prog 9 s_IRight := by
  refine OkP.mk1 (ps := [(21, s_place)]) (hs := []) ⟨ok_noriaref28_place, trivial⟩ trivial m_noriaref28_Right fun x _ => ?_
  obtain ⟨op, a, b, n⟩ := x
  rcases opCases op with h | rfl | rfl | rfl | rfl | rfl | rfl | rfl | rfl | rfl | rfl
  · have e : rightI ⟨op, a, b, n⟩ = false := by simp [rightI, fmI_no h]
    rw [e]
    obtain ⟨h1, h2, h3, h4, h5, h6, h7, h8, h9, h10⟩ := h
    have g1 : (op != 1) = true := by simpa using h1
    have g8 : (op != 8) = true := by simpa using h8
    have g9 : (op != 9) = true := by simpa using h9
    (have hcondQ := Bool.and_self; refine Todo.of ?_); (repeat' (first | ((with_reducible refine Todo.to ?_); (repeat (first | (simp only [↓rP, rT, rU, eI, eU, eB, eS, eBs, eL, eA, buildCells, sepsD, sepB, hdl, dvalX, DOp.kind, dval, frameFrom, dBin, dInt, dStr, dBeq, dUn, dLoad, cellsAt, retV, retL, DR.val, fzT, fzVs, fzV, fz1, DV.immB, IntKind.bits, dCallP, viewVs, viewV, view1, capVL, capV, viewL, noMemV, noMem, elemsOf, dAppend, dAppz, dStore, DV.one, alive, freezeAt, fzLL, fzL, bRow, bU, cellsOf, setFrom, DV.isU, lenMax, lenCap, Nat.reduceEqDiff, Nat.reduceAdd, ↓reduceIte, reduceCtorEq, Nat.reduceSub, Int.reduceToNat, Int.reducePow, Nat.reducePow, Int.reduceLE, Int.reduceLT, Nat.reduceLeDiff, Nat.reduceLT, Int.reduceBEq, Int.reduceBNe, Int.reduceEq, Int.reduceNe, Int.reduceAdd, Int.reduceSub, Int.reduceMul, Int.reduceNeg, Int.reduceTDiv, Int.reduceTMod, Int.reduceMod, Int.reduceDiv, Nat.reduceMul, forall_const, implies_true, d_noriaref28_Right, s_place_at, eIls, eIn4, eIn4s, eRows, eSs, eY, sls_len, ils_len, ils_rowsT, sls_rowsT, sls_tk0, ils_tk0, in_rowsT, in_tk0, h1, h2, h3, h4, h5, h6, h7, h8, h9, h10, g1, g8, g9 , hcondQ]) | (simp (disch := omega) only [i64_id, u64_id, u8_id, getD_map'])))) | ((with_reducible refine And.intro ?_ ?_); · first | trivial | omega | (simp; done) | (simp; omega)) | ((first | ((with_reducible refine dwp_condI (t := ?_) ?_ (fun hcQ => ?_) (fun hcQ => ?_)); rotate_left; · rfl) | ((with_reducible refine dops_guardI (t := ?_) ?_ (fun hcQ => ?_) (fun hcQ => ?_)); rotate_left; · rfl)) <;> (have hn := hcQ; have hcondQ := hcQ) <;> (try simp only [decide_eq_true_eq, decide_eq_false_iff_not, beq_iff_eq, bne_iff_ne, ne_eq, Bool.and_eq_true, Bool.or_eq_true, Bool.not_eq_true, Bool.not_eq_false, beq_eq_false_iff_ne, bne_eq_false_iff_eq, Bool.not_eq_true', Bool.not_eq_false', Int.ofNat_lt, Int.ofNat_le, Bool.or_eq_false_iff, Bool.and_eq_false_imp, Decidable.not_not, gt_iff_lt, ge_iff_le] at hn) <;> (try (exfalso; omega)) <;> (refine Todo.of ?_)) | (((with_reducible refine dwp_condA ?_ ?_ ?_); · rfl) <;> (refine Todo.of ?_)))) <;> (try (first | (with_reducible rfl) | exact Nat.le_refl _ | exact Int.le_refl _ | assumption | omega))
  all_goals (have hcondQ := Bool.and_self; refine Todo.of ?_); (repeat' (first | ((with_reducible refine Todo.to ?_); (repeat (first | (simp only [↓rP, rT, rU, eI, eU, eB, eS, eBs, eL, eA, buildCells, sepsD, sepB, hdl, dvalX, DOp.kind, dval, frameFrom, dBin, dInt, dStr, dBeq, dUn, dLoad, cellsAt, retV, retL, DR.val, fzT, fzVs, fzV, fz1, DV.immB, IntKind.bits, dCallP, viewVs, viewV, view1, capVL, capV, viewL, noMemV, noMem, elemsOf, dAppend, dAppz, dStore, DV.one, alive, freezeAt, fzLL, fzL, bRow, bU, cellsOf, setFrom, DV.isU, lenMax, lenCap, Nat.reduceEqDiff, Nat.reduceAdd, ↓reduceIte, reduceCtorEq, Nat.reduceSub, Int.reduceToNat, Int.reducePow, Nat.reducePow, Int.reduceLE, Int.reduceLT, Nat.reduceLeDiff, Nat.reduceLT, Int.reduceBEq, Int.reduceBNe, Int.reduceEq, Int.reduceNe, Int.reduceAdd, Int.reduceSub, Int.reduceMul, Int.reduceNeg, Int.reduceTDiv, Int.reduceTMod, Int.reduceMod, Int.reduceDiv, Nat.reduceMul, forall_const, implies_true, d_noriaref28_Right, s_place_at, eIls, eIn4, eIn4s, eRows, eSs, eY, sls_len, ils_len, ils_rowsT, sls_rowsT, sls_tk0, ils_tk0, in_rowsT, in_tk0 , hcondQ]) | (simp (disch := omega) only [i64_id, u64_id, u8_id, getD_map'])))) | ((with_reducible refine And.intro ?_ ?_); · first | trivial | omega | (simp; done) | (simp; omega)) | ((first | ((with_reducible refine dwp_condI (t := ?_) ?_ (fun hcQ => ?_) (fun hcQ => ?_)); rotate_left; · rfl) | ((with_reducible refine dops_guardI (t := ?_) ?_ (fun hcQ => ?_) (fun hcQ => ?_)); rotate_left; · rfl)) <;> (have hn := hcQ; have hcondQ := hcQ) <;> (try simp only [decide_eq_true_eq, decide_eq_false_iff_not, beq_iff_eq, bne_iff_ne, ne_eq, Bool.and_eq_true, Bool.or_eq_true, Bool.not_eq_true, Bool.not_eq_false, beq_eq_false_iff_ne, bne_eq_false_iff_eq, Bool.not_eq_true', Bool.not_eq_false', Int.ofNat_lt, Int.ofNat_le, Bool.or_eq_false_iff, Bool.and_eq_false_imp, Decidable.not_not, gt_iff_lt, ge_iff_le] at hn) <;> (try (exfalso; omega)) <;> (refine Todo.of ?_)) | (((with_reducible refine dwp_condA ?_ ?_ ?_); · rfl) <;> (refine Todo.of ?_)))) <;> (try (first | (with_reducible rfl) | exact Nat.le_refl _ | exact Int.le_refl _ | assumption | omega))
  all_goals (simp_all [rightI, firstI, fmI]; try omega)
def sgnL : List (List UInt8) := [[], [45], [110, 111, 116], [43], [45], [42], [47], [109, 111, 100], [97, 110, 100], [111, 114], [120, 111, 114], [61], [60, 62], [60], [60, 61], [62], [62, 61]]
def okSg (a : Int) : Prop := a = 1 ∨ a = 2 ∨ a = 3 ∨ a = 4 ∨ a = 5 ∨ a = 6 ∨ a = 7 ∨ a = 8 ∨ a = 9 ∨ a = 10 ∨ a = 11 ∨ a = 12 ∨ a = 13 ∨ a = 14 ∨ a = 15 ∨ a = 16
def sgnI (a : Int) : List UInt8 := sgnL.getD a.toNat []
noncomputable def s_cmp : List DV → Prop × DV := spec1 eI fun a => (okSg a ∧ 11 ≤ a, .str (sgnI a))
theorem s_cmp_at (a : Int) : s_cmp [.int .i64 a] = (okSg a ∧ 11 ≤ a, .str (sgnI a)) := spec1_at inj_I _ a
theorem ok_arith_compare : OkP Tryd.prog 41 s_cmp := by
  refine OkP.mk1 (ps := []) (hs := []) trivial trivial m_arith_compare fun a h => ?_
  try dsimp only at h
  obtain ⟨h, h2⟩ := h
  rcases h with rfl | rfl | rfl | rfl | rfl | rfl | rfl | rfl | rfl | rfl | rfl | rfl | rfl | rfl | rfl | rfl
  all_goals first | (exfalso; omega) | skip
  all_goals (have hcondQ := Bool.and_self; refine Todo.of ?_); (repeat' (first | ((with_reducible refine Todo.to ?_); (repeat (first | (simp only [↓rP, rT, rU, eI, eU, eB, eS, eBs, eL, eA, buildCells, sepsD, sepB, hdl, dvalX, DOp.kind, dval, frameFrom, dBin, dInt, dStr, dBeq, dUn, dLoad, cellsAt, retV, retL, DR.val, fzT, fzVs, fzV, fz1, DV.immB, IntKind.bits, dCallP, viewVs, viewV, view1, capVL, capV, viewL, noMemV, noMem, elemsOf, dAppend, dAppz, dStore, DV.one, alive, freezeAt, fzLL, fzL, bRow, bU, cellsOf, setFrom, DV.isU, lenMax, lenCap, Nat.reduceEqDiff, Nat.reduceAdd, ↓reduceIte, reduceCtorEq, Nat.reduceSub, Int.reduceToNat, Int.reducePow, Nat.reducePow, Int.reduceLE, Int.reduceLT, Nat.reduceLeDiff, Nat.reduceLT, Int.reduceBEq, Int.reduceBNe, Int.reduceEq, Int.reduceNe, Int.reduceAdd, Int.reduceSub, Int.reduceMul, Int.reduceNeg, Int.reduceTDiv, Int.reduceTMod, Int.reduceMod, Int.reduceDiv, Nat.reduceMul, forall_const, implies_true, d_arith_compare, eIls, eIn4, eIn4s, eRows, eSs, eY, sls_len, ils_len, ils_rowsT, sls_rowsT, sls_tk0, ils_tk0, in_rowsT, in_tk0 , hcondQ]) | (simp (disch := omega) only [i64_id, u64_id, u8_id, getD_map'])))) | ((with_reducible refine And.intro ?_ ?_); · first | trivial | omega | (simp; done) | (simp; omega)) | ((first | ((with_reducible refine dwp_condI (t := ?_) ?_ (fun hcQ => ?_) (fun hcQ => ?_)); rotate_left; · rfl) | ((with_reducible refine dops_guardI (t := ?_) ?_ (fun hcQ => ?_) (fun hcQ => ?_)); rotate_left; · rfl)) <;> (have hn := hcQ; have hcondQ := hcQ) <;> (try simp only [decide_eq_true_eq, decide_eq_false_iff_not, beq_iff_eq, bne_iff_ne, ne_eq, Bool.and_eq_true, Bool.or_eq_true, Bool.not_eq_true, Bool.not_eq_false, beq_eq_false_iff_ne, bne_eq_false_iff_eq, Bool.not_eq_true', Bool.not_eq_false', Int.ofNat_lt, Int.ofNat_le, Bool.or_eq_false_iff, Bool.and_eq_false_imp, Decidable.not_not, gt_iff_lt, ge_iff_le] at hn) <;> (try (exfalso; omega)) <;> (refine Todo.of ?_)) | (((with_reducible refine dwp_condA ?_ ?_ ?_); · rfl) <;> (refine Todo.of ?_)))) <;> (try (first | (with_reducible rfl) | exact Nat.le_refl _ | exact Int.le_refl _ | assumption | omega))
  all_goals rfl
noncomputable def s_Sg : List DV → Prop × DV := spec1 eI fun a => (okSg a, .str (sgnI a))
theorem s_Sg_at (a : Int) : s_Sg [.int .i64 a] = (okSg a, .str (sgnI a)) := spec1_at inj_I _ a
theorem ok_arith_Sign : OkP Tryd.prog 23 s_Sg := by
  refine OkP.mk1 (ps := [(41, s_cmp)]) (hs := []) ⟨ok_arith_compare, trivial⟩ trivial m_arith_Sign fun a h => ?_
  try dsimp only at h
  have h : okSg a := h
  have e := s_cmp_at a
  rcases h with rfl | rfl | rfl | rfl | rfl | rfl | rfl | rfl | rfl | rfl | rfl | rfl | rfl | rfl | rfl | rfl
  all_goals first | (rw [eq_true (show okSg _ ∧ (11 : Int) ≤ _ from ⟨by decide, by omega⟩)] at e) | skip
  all_goals (have hcondQ := Bool.and_self; refine Todo.of ?_); (repeat' (first | ((with_reducible refine Todo.to ?_); (repeat (first | (simp only [↓rP, rT, rU, eI, eU, eB, eS, eBs, eL, eA, buildCells, sepsD, sepB, hdl, dvalX, DOp.kind, dval, frameFrom, dBin, dInt, dStr, dBeq, dUn, dLoad, cellsAt, retV, retL, DR.val, fzT, fzVs, fzV, fz1, DV.immB, IntKind.bits, dCallP, viewVs, viewV, view1, capVL, capV, viewL, noMemV, noMem, elemsOf, dAppend, dAppz, dStore, DV.one, alive, freezeAt, fzLL, fzL, bRow, bU, cellsOf, setFrom, DV.isU, lenMax, lenCap, Nat.reduceEqDiff, Nat.reduceAdd, ↓reduceIte, reduceCtorEq, Nat.reduceSub, Int.reduceToNat, Int.reducePow, Nat.reducePow, Int.reduceLE, Int.reduceLT, Nat.reduceLeDiff, Nat.reduceLT, Int.reduceBEq, Int.reduceBNe, Int.reduceEq, Int.reduceNe, Int.reduceAdd, Int.reduceSub, Int.reduceMul, Int.reduceNeg, Int.reduceTDiv, Int.reduceTMod, Int.reduceMod, Int.reduceDiv, Nat.reduceMul, forall_const, implies_true, d_arith_Sign, s_cmp_at, eIls, eIn4, eIn4s, eRows, eSs, eY, sls_len, ils_len, ils_rowsT, sls_rowsT, sls_tk0, ils_tk0, in_rowsT, in_tk0, e , hcondQ]) | (simp (disch := omega) only [i64_id, u64_id, u8_id, getD_map'])))) | ((with_reducible refine And.intro ?_ ?_); · first | trivial | omega | (simp; done) | (simp; omega)) | ((first | ((with_reducible refine dwp_condI (t := ?_) ?_ (fun hcQ => ?_) (fun hcQ => ?_)); rotate_left; · rfl) | ((with_reducible refine dops_guardI (t := ?_) ?_ (fun hcQ => ?_) (fun hcQ => ?_)); rotate_left; · rfl)) <;> (have hn := hcQ; have hcondQ := hcQ) <;> (try simp only [decide_eq_true_eq, decide_eq_false_iff_not, beq_iff_eq, bne_iff_ne, ne_eq, Bool.and_eq_true, Bool.or_eq_true, Bool.not_eq_true, Bool.not_eq_false, beq_eq_false_iff_ne, bne_eq_false_iff_eq, Bool.not_eq_true', Bool.not_eq_false', Int.ofNat_lt, Int.ofNat_le, Bool.or_eq_false_iff, Bool.and_eq_false_imp, Decidable.not_not, gt_iff_lt, ge_iff_le] at hn) <;> (try (exfalso; omega)) <;> (refine Todo.of ?_)) | (((with_reducible refine dwp_condA ?_ ?_ ?_); · rfl) <;> (refine Todo.of ?_)))) <;> (try (first | (with_reducible rfl) | exact Nat.le_refl _ | exact Int.le_refl _ | assumption | omega))
  all_goals rfl
theorem ok_noriaref07_Sign : OkP Tryd.prog 27 s_Sg := by
  refine OkP.mk1 (ps := []) (hs := []) trivial trivial m_noriaref07_Sign fun a h => ?_
  try dsimp only at h
  have h : okSg a := h
  rcases h with rfl | rfl | rfl | rfl | rfl | rfl | rfl | rfl | rfl | rfl | rfl | rfl | rfl | rfl | rfl | rfl
  all_goals (have hcondQ := Bool.and_self; refine Todo.of ?_); (repeat' (first | ((with_reducible refine Todo.to ?_); (repeat (first | (simp only [↓rP, rT, rU, eI, eU, eB, eS, eBs, eL, eA, buildCells, sepsD, sepB, hdl, dvalX, DOp.kind, dval, frameFrom, dBin, dInt, dStr, dBeq, dUn, dLoad, cellsAt, retV, retL, DR.val, fzT, fzVs, fzV, fz1, DV.immB, IntKind.bits, dCallP, viewVs, viewV, view1, capVL, capV, viewL, noMemV, noMem, elemsOf, dAppend, dAppz, dStore, DV.one, alive, freezeAt, fzLL, fzL, bRow, bU, cellsOf, setFrom, DV.isU, lenMax, lenCap, Nat.reduceEqDiff, Nat.reduceAdd, ↓reduceIte, reduceCtorEq, Nat.reduceSub, Int.reduceToNat, Int.reducePow, Nat.reducePow, Int.reduceLE, Int.reduceLT, Nat.reduceLeDiff, Nat.reduceLT, Int.reduceBEq, Int.reduceBNe, Int.reduceEq, Int.reduceNe, Int.reduceAdd, Int.reduceSub, Int.reduceMul, Int.reduceNeg, Int.reduceTDiv, Int.reduceTMod, Int.reduceMod, Int.reduceDiv, Nat.reduceMul, forall_const, implies_true, d_noriaref07_Sign, eIls, eIn4, eIn4s, eRows, eSs, eY, sls_len, ils_len, ils_rowsT, sls_rowsT, sls_tk0, ils_tk0, in_rowsT, in_tk0 , hcondQ]) | (simp (disch := omega) only [i64_id, u64_id, u8_id, getD_map'])))) | ((with_reducible refine And.intro ?_ ?_); · first | trivial | omega | (simp; done) | (simp; omega)) | ((first | ((with_reducible refine dwp_condI (t := ?_) ?_ (fun hcQ => ?_) (fun hcQ => ?_)); rotate_left; · rfl) | ((with_reducible refine dops_guardI (t := ?_) ?_ (fun hcQ => ?_) (fun hcQ => ?_)); rotate_left; · rfl)) <;> (have hn := hcQ; have hcondQ := hcQ) <;> (try simp only [decide_eq_true_eq, decide_eq_false_iff_not, beq_iff_eq, bne_iff_ne, ne_eq, Bool.and_eq_true, Bool.or_eq_true, Bool.not_eq_true, Bool.not_eq_false, beq_eq_false_iff_ne, bne_eq_false_iff_eq, Bool.not_eq_true', Bool.not_eq_false', Int.ofNat_lt, Int.ofNat_le, Bool.or_eq_false_iff, Bool.and_eq_false_imp, Decidable.not_not, gt_iff_lt, ge_iff_le] at hn) <;> (try (exfalso; omega)) <;> (refine Todo.of ?_)) | (((with_reducible refine dwp_condA ?_ ?_ ?_); · rfl) <;> (refine Todo.of ?_)))) <;> (try (first | (with_reducible rfl) | exact Nat.le_refl _ | exact Int.le_refl _ | assumption | omega))
  all_goals rfl
end Go.Proofs.YtnbmpdhgejppaaaDoor

/- Instructions' texts. -/
set_option linter.all false
set_option maxRecDepth 20000
namespace Go.Proofs.YtnbmpdhgejppaaaDoor
open Go.Nk

structure ok64 (x : In4) : Prop where
  a : okI64 x.a
  b : okI64 x.b
  n : okI64 x.n
def partsI (x : In4) : List (List UInt8) :=
  (fmI x.op).nm :: ((if (fmI x.op).w then [Lib.itoa x.a] else []) ++ (if (fmI x.op).s then [sgnI x.a] else []) ++ (if (fmI x.op).b then [Lib.itoa x.b] else []) ++ (if (fmI x.op).n then [Lib.itoa x.n] else []))
def textI (x : In4) : List UInt8 := if rightI x then Lib.join (partsI x) [32] else []
theorem sg_len (a : Int) (h : okSg a) : (sgnI a).length ≤ 3 := by
  rcases h with rfl | rfl | rfl | rfl | rfl | rfl | rfl | rfl | rfl | rfl | rfl | rfl | rfl | rfl | rfl | rfl <;> decide
theorem right_sg {x : In4} (h : rightI x = true) (hs : (fmI x.op).s = true) : okSg x.a := by
  obtain ⟨op, a, b, n⟩ := x
  rcases opCases op with ho | rfl | rfl | rfl | rfl | rfl | rfl | rfl | rfl | rfl | rfl
  · rw [fmI_no ho] at hs; cases hs
  all_goals first | (exfalso; have hs' : false = true := hs; cases hs'; done) | skip
  · simp [rightI, fmI, firstI] at h
    unfold okSg; simp only; omega
  · simp [rightI, fmI, firstI] at h
    unfold okSg; simp only; omega
theorem right_op {x : In4} (h : rightI x = true) : okOp x.op := by
  rcases opCases x.op with ho | ho
  · simp [rightI, fmI_no ho] at h
  · exact ho
theorem join1 (a : List UInt8) : Lib.join [a] [32] = a := Lib.join_one _ _
theorem join2 (a b : List UInt8) : Lib.join [a, b] [32] = a ++ 32 :: b := by simp [Lib.join_cons, Lib.joinTail]
theorem join3 (a b c : List UInt8) : Lib.join [a, b, c] [32] = a ++ 32 :: (b ++ 32 :: c) := by simp [Lib.join_cons, Lib.joinTail]
noncomputable def s_IText : List DV → Prop × DV := spec1 eIn4 fun x => (ok64 x, .str (textI x))
theorem s_IText_at (x : In4) : s_IText [.agg (cIn x)] = (ok64 x, .str (textI x)) := spec1_at inj_In4 _ x
set_option maxHeartbeats 4000000 in
theorem ok_instr_Text : OkP Tryd.prog 10 s_IText := by
  refine OkP.mk1 (ps := [(8, s_IRight), (18, s_of), (22, s_Itoa), (23, s_Sg), (24, s_FmtI), (25, s_Join)]) (hs := []) ⟨ok_instr_Right, ok_instr_of, ok_strconv_Itoa, ok_arith_Sign, ok_strconv_FormatInt, ok_strings_Join, trivial⟩ trivial m_instr_Text fun x h => ?_
  try dsimp only at h
  have h : ok64 x := h
  have er := s_IRight_at x
  simp only [cIn] at er
  cases r : rightI x
  · rw [r] at er
    have e : textI x = [] := by simp [textI, r]
    rw [e]
    (have hcondQ := Bool.and_self; refine Todo.of ?_); (repeat' (first | ((with_reducible refine Todo.to ?_); (repeat (first | (simp only [↓rP, rT, rU, eI, eU, eB, eS, eBs, eL, eA, buildCells, sepsD, sepB, hdl, dvalX, DOp.kind, dval, frameFrom, dBin, dInt, dStr, dBeq, dUn, dLoad, cellsAt, retV, retL, DR.val, fzT, fzVs, fzV, fz1, DV.immB, IntKind.bits, dCallP, viewVs, viewV, view1, capVL, capV, viewL, noMemV, noMem, elemsOf, dAppend, dAppz, dStore, DV.one, alive, freezeAt, fzLL, fzL, bRow, bU, cellsOf, setFrom, DV.isU, lenMax, lenCap, Nat.reduceEqDiff, Nat.reduceAdd, ↓reduceIte, reduceCtorEq, Nat.reduceSub, Int.reduceToNat, Int.reducePow, Nat.reducePow, Int.reduceLE, Int.reduceLT, Nat.reduceLeDiff, Nat.reduceLT, Int.reduceBEq, Int.reduceBNe, Int.reduceEq, Int.reduceNe, Int.reduceAdd, Int.reduceSub, Int.reduceMul, Int.reduceNeg, Int.reduceTDiv, Int.reduceTMod, Int.reduceMod, Int.reduceDiv, Nat.reduceMul, forall_const, implies_true, d_instr_Text, s_IRight_at, s_of_at, s_Itoa_at, s_Sg_at, s_FmtI_at, s_Join_at, eIls, eIn4, eIn4s, eRows, eSs, eY, sls_len, ils_len, ils_rowsT, sls_rowsT, sls_tk0, ils_tk0, in_rowsT, in_tk0, er , hcondQ]) | (simp (disch := omega) only [i64_id, u64_id, u8_id, getD_map'])))) | ((with_reducible refine And.intro ?_ ?_); · first | trivial | omega | (simp; done) | (simp; omega)) | ((first | ((with_reducible refine dwp_condI (t := ?_) ?_ (fun hcQ => ?_) (fun hcQ => ?_)); rotate_left; · rfl) | ((with_reducible refine dops_guardI (t := ?_) ?_ (fun hcQ => ?_) (fun hcQ => ?_)); rotate_left; · rfl)) <;> (have hn := hcQ; have hcondQ := hcQ) <;> (try simp only [decide_eq_true_eq, decide_eq_false_iff_not, beq_iff_eq, bne_iff_ne, ne_eq, Bool.and_eq_true, Bool.or_eq_true, Bool.not_eq_true, Bool.not_eq_false, beq_eq_false_iff_ne, bne_eq_false_iff_eq, Bool.not_eq_true', Bool.not_eq_false', Int.ofNat_lt, Int.ofNat_le, Bool.or_eq_false_iff, Bool.and_eq_false_imp, Decidable.not_not, gt_iff_lt, ge_iff_le] at hn) <;> (try (exfalso; omega)) <;> (refine Todo.of ?_)) | (((with_reducible refine dwp_condA ?_ ?_ ?_); · rfl) <;> (refine Todo.of ?_)))) <;> (try (first | (with_reducible rfl) | exact Nat.le_refl _ | exact Int.le_refl _ | assumption | omega))
  rw [r] at er
  have et : textI x = Lib.join (partsI x) [32] := by simp [textI, r]
  rw [et]
  have ej := fun l => s_Join_at l [32]
  have ea := s_Itoa_at x.a
  have eb := s_Itoa_at x.b
  have en := s_FmtI_at x.n 10
  rw [eq_true h.a] at ea
  rw [eq_true h.b] at eb
  rw [eq_true (And.intro h.n rfl)] at en
  have la := itoa_len h.a
  have lb := itoa_len h.b
  have ln := itoa_len h.n
  have es : (fmI x.op).s = true → s_Sg [.int .i64 x.a] = (True, .str (sgnI x.a)) := fun hs => by
    have := s_Sg_at x.a
    rw [eq_true (right_sg r hs)] at this
    exact this
  have ls : (fmI x.op).s = true → (sgnI x.a).length ≤ 3 := fun hs => sg_len _ (right_sg r hs)
  have ho := right_op r
  have j1 := fun a : List UInt8 => s_Join_at [a] [32]
  have j2 := fun a b : List UInt8 => s_Join_at [a, b] [32]
  have j3 := fun a b c : List UInt8 => s_Join_at [a, b, c] [32]
  simp only [sls, List.map_cons, List.map_nil, join1, join2, join3] at j1 j2 j3
  obtain ⟨op, a, b, n⟩ := x
  simp only at ea eb en la lb ln es ls ho
  unfold okOp at ho
  rcases ho with rfl | rfl | rfl | rfl | rfl | rfl | rfl | rfl | rfl | rfl
  all_goals first | (have es := es rfl; have ls := ls rfl) | skip
  all_goals simp only [partsI, fmI, if_true, if_false, List.append_nil, List.nil_append, List.cons_append, List.singleton_append, Bool.false_eq_true, join1, join2, join3, ↓reduceIte, Int.reduceEq]
  all_goals (have hcondQ := Bool.and_self; refine Todo.of ?_); (repeat' (first | ((with_reducible refine Todo.to ?_); (repeat (first | (simp only [↓rP, rT, rU, eI, eU, eB, eS, eBs, eL, eA, buildCells, sepsD, sepB, hdl, dvalX, DOp.kind, dval, frameFrom, dBin, dInt, dStr, dBeq, dUn, dLoad, cellsAt, retV, retL, DR.val, fzT, fzVs, fzV, fz1, DV.immB, IntKind.bits, dCallP, viewVs, viewV, view1, capVL, capV, viewL, noMemV, noMem, elemsOf, dAppend, dAppz, dStore, DV.one, alive, freezeAt, fzLL, fzL, bRow, bU, cellsOf, setFrom, DV.isU, lenMax, lenCap, Nat.reduceEqDiff, Nat.reduceAdd, ↓reduceIte, reduceCtorEq, Nat.reduceSub, Int.reduceToNat, Int.reducePow, Nat.reducePow, Int.reduceLE, Int.reduceLT, Nat.reduceLeDiff, Nat.reduceLT, Int.reduceBEq, Int.reduceBNe, Int.reduceEq, Int.reduceNe, Int.reduceAdd, Int.reduceSub, Int.reduceMul, Int.reduceNeg, Int.reduceTDiv, Int.reduceTMod, Int.reduceMod, Int.reduceDiv, Nat.reduceMul, forall_const, implies_true, d_instr_Text, s_IRight_at, s_of_at, s_Itoa_at, s_Sg_at, s_FmtI_at, s_Join_at, eIls, eIn4, eIn4s, eRows, eSs, eY, sls_len, ils_len, ils_rowsT, sls_rowsT, sls_tk0, ils_tk0, in_rowsT, in_tk0, er, ea, eb, en, es, j1, j2, j3, okJoin, fmI, Lib.join_one, join2, join3, List.length_append , hcondQ]) | (simp (disch := omega) only [i64_id, u64_id, u8_id, getD_map'])))) | ((with_reducible refine And.intro ?_ ?_); · first | trivial | omega | (simp; done) | (simp; omega)) | ((first | ((with_reducible refine dwp_condI (t := ?_) ?_ (fun hcQ => ?_) (fun hcQ => ?_)); rotate_left; · rfl) | ((with_reducible refine dops_guardI (t := ?_) ?_ (fun hcQ => ?_) (fun hcQ => ?_)); rotate_left; · rfl)) <;> (have hn := hcQ; have hcondQ := hcQ) <;> (try simp only [decide_eq_true_eq, decide_eq_false_iff_not, beq_iff_eq, bne_iff_ne, ne_eq, Bool.and_eq_true, Bool.or_eq_true, Bool.not_eq_true, Bool.not_eq_false, beq_eq_false_iff_ne, bne_eq_false_iff_eq, Bool.not_eq_true', Bool.not_eq_false', Int.ofNat_lt, Int.ofNat_le, Bool.or_eq_false_iff, Bool.and_eq_false_imp, Decidable.not_not, gt_iff_lt, ge_iff_le] at hn) <;> (try (exfalso; omega)) <;> (refine Todo.of ?_)) | (((with_reducible refine dwp_condA ?_ ?_ ?_); · rfl) <;> (refine Todo.of ?_)))) <;> (try (first | (with_reducible rfl) | exact Nat.le_refl _ | exact Int.le_refl _ | assumption | omega))
set_option maxHeartbeats 4000000 in
theorem ok_noriaref28_Text : OkP Tryd.prog 11 s_IText := by
  refine OkP.mk1 (ps := [(9, s_IRight), (26, s_Digits), (27, s_Sg)]) (hs := []) ⟨ok_noriaref28_Right, ok_noriaref06_Digits, ok_noriaref07_Sign, trivial⟩ trivial m_noriaref28_Text fun x h => ?_
  try dsimp only at h
  have h : ok64 x := h
  have er := s_IRight_at x
  simp only [cIn] at er
  cases r : rightI x
  · rw [r] at er
    have e : textI x = [] := by simp [textI, r]
    rw [e]
    (have hcondQ := Bool.and_self; refine Todo.of ?_); (repeat' (first | ((with_reducible refine Todo.to ?_); (repeat (first | (simp only [↓rP, rT, rU, eI, eU, eB, eS, eBs, eL, eA, buildCells, sepsD, sepB, hdl, dvalX, DOp.kind, dval, frameFrom, dBin, dInt, dStr, dBeq, dUn, dLoad, cellsAt, retV, retL, DR.val, fzT, fzVs, fzV, fz1, DV.immB, IntKind.bits, dCallP, viewVs, viewV, view1, capVL, capV, viewL, noMemV, noMem, elemsOf, dAppend, dAppz, dStore, DV.one, alive, freezeAt, fzLL, fzL, bRow, bU, cellsOf, setFrom, DV.isU, lenMax, lenCap, Nat.reduceEqDiff, Nat.reduceAdd, ↓reduceIte, reduceCtorEq, Nat.reduceSub, Int.reduceToNat, Int.reducePow, Nat.reducePow, Int.reduceLE, Int.reduceLT, Nat.reduceLeDiff, Nat.reduceLT, Int.reduceBEq, Int.reduceBNe, Int.reduceEq, Int.reduceNe, Int.reduceAdd, Int.reduceSub, Int.reduceMul, Int.reduceNeg, Int.reduceTDiv, Int.reduceTMod, Int.reduceMod, Int.reduceDiv, Nat.reduceMul, forall_const, implies_true, d_noriaref28_Text, s_IRight_at, s_Digits_at, s_Sg_at, eIls, eIn4, eIn4s, eRows, eSs, eY, sls_len, ils_len, ils_rowsT, sls_rowsT, sls_tk0, ils_tk0, in_rowsT, in_tk0, er , hcondQ]) | (simp (disch := omega) only [i64_id, u64_id, u8_id, getD_map'])))) | ((with_reducible refine And.intro ?_ ?_); · first | trivial | omega | (simp; done) | (simp; omega)) | ((first | ((with_reducible refine dwp_condI (t := ?_) ?_ (fun hcQ => ?_) (fun hcQ => ?_)); rotate_left; · rfl) | ((with_reducible refine dops_guardI (t := ?_) ?_ (fun hcQ => ?_) (fun hcQ => ?_)); rotate_left; · rfl)) <;> (have hn := hcQ; have hcondQ := hcQ) <;> (try simp only [decide_eq_true_eq, decide_eq_false_iff_not, beq_iff_eq, bne_iff_ne, ne_eq, Bool.and_eq_true, Bool.or_eq_true, Bool.not_eq_true, Bool.not_eq_false, beq_eq_false_iff_ne, bne_eq_false_iff_eq, Bool.not_eq_true', Bool.not_eq_false', Int.ofNat_lt, Int.ofNat_le, Bool.or_eq_false_iff, Bool.and_eq_false_imp, Decidable.not_not, gt_iff_lt, ge_iff_le] at hn) <;> (try (exfalso; omega)) <;> (refine Todo.of ?_)) | (((with_reducible refine dwp_condA ?_ ?_ ?_); · rfl) <;> (refine Todo.of ?_)))) <;> (try (first | (with_reducible rfl) | exact Nat.le_refl _ | exact Int.le_refl _ | assumption | omega))
  rw [r] at er
  have et : textI x = Lib.join (partsI x) [32] := by simp [textI, r]
  rw [et]
  have ea := s_Digits_at x.a
  have eb := s_Digits_at x.b
  have en := s_Digits_at x.n
  rw [eq_true h.a] at ea
  rw [eq_true h.b] at eb
  rw [eq_true h.n] at en
  have la := itoa_len h.a
  have lb := itoa_len h.b
  have ln := itoa_len h.n
  have es : (fmI x.op).s = true → s_Sg [.int .i64 x.a] = (True, .str (sgnI x.a)) := fun hs => by
    have := s_Sg_at x.a
    rw [eq_true (right_sg r hs)] at this
    exact this
  have ls : (fmI x.op).s = true → (sgnI x.a).length ≤ 3 := fun hs => sg_len _ (right_sg r hs)
  have ho := right_op r
  obtain ⟨op, a, b, n⟩ := x
  simp only at ea eb en la lb ln es ls ho
  unfold okOp at ho
  rcases ho with rfl | rfl | rfl | rfl | rfl | rfl | rfl | rfl | rfl | rfl
  all_goals first | (have es := es rfl; have ls := ls rfl) | skip
  all_goals simp only [partsI, fmI, if_true, if_false, List.append_nil, List.nil_append, List.cons_append, List.singleton_append, Bool.false_eq_true, join1, join2, join3, ↓reduceIte, Int.reduceEq]
  all_goals (have hcondQ := Bool.and_self; refine Todo.of ?_); (repeat' (first | ((with_reducible refine Todo.to ?_); (repeat (first | (simp only [↓rP, rT, rU, eI, eU, eB, eS, eBs, eL, eA, buildCells, sepsD, sepB, hdl, dvalX, DOp.kind, dval, frameFrom, dBin, dInt, dStr, dBeq, dUn, dLoad, cellsAt, retV, retL, DR.val, fzT, fzVs, fzV, fz1, DV.immB, IntKind.bits, dCallP, viewVs, viewV, view1, capVL, capV, viewL, noMemV, noMem, elemsOf, dAppend, dAppz, dStore, DV.one, alive, freezeAt, fzLL, fzL, bRow, bU, cellsOf, setFrom, DV.isU, lenMax, lenCap, Nat.reduceEqDiff, Nat.reduceAdd, ↓reduceIte, reduceCtorEq, Nat.reduceSub, Int.reduceToNat, Int.reducePow, Nat.reducePow, Int.reduceLE, Int.reduceLT, Nat.reduceLeDiff, Nat.reduceLT, Int.reduceBEq, Int.reduceBNe, Int.reduceEq, Int.reduceNe, Int.reduceAdd, Int.reduceSub, Int.reduceMul, Int.reduceNeg, Int.reduceTDiv, Int.reduceTMod, Int.reduceMod, Int.reduceDiv, Nat.reduceMul, forall_const, implies_true, d_noriaref28_Text, s_IRight_at, s_Digits_at, s_Sg_at, eIls, eIn4, eIn4s, eRows, eSs, eY, sls_len, ils_len, ils_rowsT, sls_rowsT, sls_tk0, ils_tk0, in_rowsT, in_tk0, er, ea, eb, en, es, strMax, List.length_append, List.append_assoc , hcondQ]) | (simp (disch := omega) only [i64_id, u64_id, u8_id, getD_map'])))) | ((with_reducible refine And.intro ?_ ?_); · first | trivial | omega | (simp; done) | (simp; omega)) | ((first | ((with_reducible refine dwp_condI (t := ?_) ?_ (fun hcQ => ?_) (fun hcQ => ?_)); rotate_left; · rfl) | ((with_reducible refine dops_guardI (t := ?_) ?_ (fun hcQ => ?_) (fun hcQ => ?_)); rotate_left; · rfl)) <;> (have hn := hcQ; have hcondQ := hcQ) <;> (try simp only [decide_eq_true_eq, decide_eq_false_iff_not, beq_iff_eq, bne_iff_ne, ne_eq, Bool.and_eq_true, Bool.or_eq_true, Bool.not_eq_true, Bool.not_eq_false, beq_eq_false_iff_ne, bne_eq_false_iff_eq, Bool.not_eq_true', Bool.not_eq_false', Int.ofNat_lt, Int.ofNat_le, Bool.or_eq_false_iff, Bool.and_eq_false_imp, Decidable.not_not, gt_iff_lt, ge_iff_le] at hn) <;> (try (exfalso; omega)) <;> (refine Todo.of ?_)) | (((with_reducible refine dwp_condA ?_ ?_ ?_); · rfl) <;> (refine Todo.of ?_)))) <;> (try (first | (with_reducible rfl) | exact Nat.le_refl _ | exact Int.le_refl _ | assumption | omega))
  all_goals first | omega | (simp only [List.cons_append, List.nil_append, List.append_assoc]; done) | rfl
end Go.Proofs.YtnbmpdhgejppaaaDoor

/- Unlike instructions have unlike texts. -/
set_option linter.all false
set_option maxRecDepth 20000
namespace Go.Proofs.YtnbmpdhgejppaaaDoor
open Go.Nk

theorem tail_injA {c : UInt8} : ∀ {xs ys : List (List UInt8)}, (∀ x ∈ xs, ∀ b ∈ x, (b != c) = true) → (∀ x ∈ ys, ∀ b ∈ x, (b != c) = true) → Lib.joinTail [c] xs = Lib.joinTail [c] ys → xs = ys
  | [], [], _, _, _ => rfl
  | [], y :: ys, _, _, h => by simp [Lib.joinTail] at h
  | x :: xs, [], _, _, h => by simp [Lib.joinTail] at h
  | x :: xs, y :: ys, hx, hy, h => by
    have e1 : x ++ Lib.joinTail [c] xs = y ++ Lib.joinTail [c] ys := by
      have : ∀ (z : List UInt8) (zs : List (List UInt8)), Lib.joinTail [c] (z :: zs) = c :: (z ++ Lib.joinTail [c] zs) := fun z zs => by simp [Lib.joinTail]
      rw [this, this] at h
      injection h
    obtain ⟨e2, e3⟩ := splitC (hx x List.mem_cons_self) (hy y List.mem_cons_self) (tail_form c xs) (tail_form c ys) e1
    rw [e2, tail_injA (fun z hz => hx z (List.mem_cons_of_mem _ hz)) (fun z hz => hy z (List.mem_cons_of_mem _ hz)) e3]
theorem join_injA {c : UInt8} {x y : List UInt8} {xs ys : List (List UInt8)} (hx : ∀ z ∈ x :: xs, ∀ b ∈ z, (b != c) = true) (hy : ∀ z ∈ y :: ys, ∀ b ∈ z, (b != c) = true) (h : Lib.join (x :: xs) [c] = Lib.join (y :: ys) [c]) : x = y ∧ xs = ys := by
  rw [Lib.join_cons, Lib.join_cons] at h
  obtain ⟨e2, e3⟩ := splitC (hx x List.mem_cons_self) (hy y List.mem_cons_self) (tail_form c xs) (tail_form c ys) h
  exact ⟨e2, tail_injA (fun z hz => hx z (List.mem_cons_of_mem _ hz)) (fun z hz => hy z (List.mem_cons_of_mem _ hz)) e3⟩
theorem nm_no (op : Int) : ∀ b ∈ (fmI op).nm, (b != 32) = true := by
  rcases opCases op with h | rfl | rfl | rfl | rfl | rfl | rfl | rfl | rfl | rfl | rfl
  · rw [fmI_no h]; simp
  all_goals decide
theorem sg_no (a : Int) (h : okSg a) : ∀ b ∈ sgnI a, (b != 32) = true := by
  rcases h with rfl | rfl | rfl | rfl | rfl | rfl | rfl | rfl | rfl | rfl | rfl | rfl | rfl | rfl | rfl | rfl <;> decide
theorem itoa_no32 (n : Int) : ∀ b ∈ Lib.itoa n, (b != 32) = true := itoa_no 32 (by decide) (by decide) n
theorem parts_no {x : In4} (h : rightI x = true) : ∀ z ∈ partsI x, ∀ b ∈ z, (b != 32) = true := by
  intro z hz
  simp only [partsI, List.mem_cons, List.mem_append] at hz
  rcases hz with rfl | ((hz | hz) | hz) | hz
  · exact nm_no _
  · split at hz
    · simp only [List.mem_singleton] at hz; subst hz; exact itoa_no32 _
    · cases hz
  · split at hz
    · rename_i hs; simp only [List.mem_singleton] at hz; subst hz; exact sg_no _ (right_sg h hs)
    · cases hz
  · split at hz
    · simp only [List.mem_singleton] at hz; subst hz; exact itoa_no32 _
    · cases hz
  · split at hz
    · simp only [List.mem_singleton] at hz; subst hz; exact itoa_no32 _
    · cases hz
theorem nm_inj {o p : Int} (ho : okOp o) (hp : okOp p) (h : (fmI o).nm = (fmI p).nm) : o = p := by
  rcases ho with rfl | rfl | rfl | rfl | rfl | rfl | rfl | rfl | rfl | rfl <;> rcases hp with rfl | rfl | rfl | rfl | rfl | rfl | rfl | rfl | rfl | rfl <;> first | rfl | exact absurd h (by decide)
theorem sg_un {a b : Int} (ha : a = 1 ∨ a = 2) (hb : b = 1 ∨ b = 2) (h : sgnI a = sgnI b) : a = b := by
  rcases ha with rfl | rfl <;> rcases hb with rfl | rfl <;> first | rfl | exact absurd h (by decide)
def okBn (a : Int) : Prop := a = 3 ∨ a = 4 ∨ a = 5 ∨ a = 6 ∨ a = 7 ∨ a = 8 ∨ a = 9 ∨ a = 10 ∨ a = 11 ∨ a = 12 ∨ a = 13 ∨ a = 14 ∨ a = 15 ∨ a = 16
theorem sg_bn {a b : Int} (ha : okBn a) (hb : okBn b) (h : sgnI a = sgnI b) : a = b := by
  rcases ha with rfl | rfl | rfl | rfl | rfl | rfl | rfl | rfl | rfl | rfl | rfl | rfl | rfl | rfl <;> rcases hb with rfl | rfl | rfl | rfl | rfl | rfl | rfl | rfl | rfl | rfl | rfl | rfl | rfl | rfl <;> first | rfl | exact absurd h (by decide)
theorem bn_of {a : Int} (h1 : 3 ≤ a) (h2 : a ≤ 16) : okBn a := by unfold okBn; omega
theorem in_ext {x y : In4} (h1 : x.op = y.op) (h2 : x.a = y.a) (h3 : x.b = y.b) (h4 : x.n = y.n) : x = y := by
  cases x; cases y; simp_all
theorem textI_same {x y : In4} (hx : rightI x = true) (hy : rightI y = true) : (textI x == textI y) = decide (x = y) := by
  rw [Bool.eq_iff_iff, decide_eq_true_eq, beq_iff_eq]
  constructor
  · intro h
    unfold textI at h
    rw [if_pos hx, if_pos hy] at h
    have h1 := parts_no hx
    have h2 := parts_no hy
    have ho := nm_inj (right_op hx) (right_op hy)
    obtain ⟨op, a, b, n⟩ := x
    obtain ⟨op', a', b', n'⟩ := y
    unfold partsI at h h1 h2
    obtain ⟨e1, e2⟩ := join_injA h1 h2 h
    obtain rfl := ho e1
    have hok := right_op hx
    clear h h1 h2 ho e1
    simp only at hok e2
    unfold okOp at hok
    rcases hok with rfl | rfl | rfl | rfl | rfl | rfl | rfl | rfl | rfl | rfl
    all_goals simp [fmI] at e2
    all_goals simp [rightI, fmI, firstI] at hx hy
    · exact in_ext rfl (itoa_inj e2.1) (by simp only; omega) (itoa_inj e2.2)
    · exact in_ext rfl (itoa_inj e2) (by simp only; omega) (by simp only; omega)
    · exact in_ext rfl (itoa_inj e2) (by simp only; omega) (by simp only; omega)
    · exact in_ext rfl (sg_un hx.1.1 hy.1.1 e2) (by simp only; omega) (by simp only; omega)
    · exact in_ext rfl (sg_bn (bn_of hx.1.1.1 hx.1.1.2) (bn_of hy.1.1.1 hy.1.1.2) e2) (by simp only; omega) (by simp only; omega)
    · exact in_ext rfl (itoa_inj e2) (by simp only; omega) (by simp only; omega)
    · exact in_ext rfl (itoa_inj e2) (by simp only; omega) (by simp only; omega)
    · exact in_ext rfl (itoa_inj e2.1) (itoa_inj e2.2) (by simp only; omega)
    · exact in_ext rfl (itoa_inj e2.1) (itoa_inj e2.2) (by simp only; omega)
    · exact in_ext rfl (by simp only; omega) (by simp only; omega) (by simp only; omega)
  · rintro rfl; rfl
end Go.Proofs.YtnbmpdhgejppaaaDoor

