/- Instructions: which may be; their texts. -/
import Derived.Test.YtfaailjhioobhaaGreatI4
import Derived.Test.YtfaailjhioobhaaGreatBa
import Derived.Test.YtfaailjhioobhaaGreatNkZ6
import Derived.Test.YtfaailjhioobhaaGreatWr4
import Derived.Test.YtfaailjhioobhaaGreatRdLive
import Derived.Test.YtfaailjhioobhaaGreatOcPl
set_option linter.all false
set_option maxRecDepth 20000
namespace Go.Proofs.YtfaailjhioobhaaGreat
open Go.Nk

abbrev eIn4 : In4 → DV := eA cIn
theorem inj_In4 : Inj eIn4 := inj_A cIn_inj
abbrev eIn4s : List In4 → DV := eL cIn
theorem inj_In4s : Inj eIn4s := inj_L cIn_inj
theorem in_tk0 (l : List In4) : (l.map cIn).take l.length = l.map cIn := List.take_of_length_le (by rw [List.length_map]; exact Nat.le_refl _)
/-- Which kinds there are. -/
def okOp (op : Int) : Prop := op = 1 ∨ op = 2 ∨ op = 3 ∨ op = 4 ∨ op = 5 ∨ op = 6 ∨ op = 7 ∨ op = 8 ∨ op = 9 ∨ op = 10
structure noOp (op : Int) : Prop where
  n1 : (op == 1) = false
  n2 : (op == 2) = false
  n3 : (op == 3) = false
  n4 : (op == 4) = false
  n5 : (op == 5) = false
  n6 : (op == 6) = false
  n7 : (op == 7) = false
  n8 : (op == 8) = false
  n9 : (op == 9) = false
  n10 : (op == 10) = false
theorem opCases (op : Int) : noOp op ∨ okOp op := by
  by_cases h : okOp op
  · exact .inr h
  · unfold okOp at h
    simp only [not_or] at h
    obtain ⟨h1, h2, h3, h4, h5, h6, h7, h8, h9, h10⟩ := h
    refine .inl ⟨?_, ?_, ?_, ?_, ?_, ?_, ?_, ?_, ?_, ?_⟩ <;> simpa using ‹_›
structure Fm where
  nm : List UInt8
  w : Bool
  s : Bool
  b : Bool
  n : Bool
  ok : Bool
def fmI (op : Int) : Fm :=
  if op = 1 then ⟨[112, 117, 115, 104], true, false, false, true, true⟩ else
  if op = 2 then ⟨[108, 111, 97, 100], true, false, false, false, true⟩ else
  if op = 3 then ⟨[115, 116, 111, 114, 101], true, false, false, false, true⟩ else
  if op = 4 then ⟨[117, 110], false, true, false, false, true⟩ else
  if op = 5 then ⟨[98, 105, 110], false, true, false, false, true⟩ else
  if op = 6 then ⟨[106, 117, 109, 112], true, false, false, false, true⟩ else
  if op = 7 then ⟨[122, 101, 114, 111], true, false, false, false, true⟩ else
  if op = 8 then ⟨[103, 101, 116], true, false, true, false, true⟩ else
  if op = 9 then ⟨[112, 117, 116], true, false, true, false, true⟩ else
  if op = 10 then ⟨[104, 97, 108, 116], false, false, false, false, true⟩ else ⟨[], false, false, false, false, false⟩
theorem fmI_no {op : Int} (h : noOp op) : fmI op = ⟨[], false, false, false, false, false⟩ := by
  obtain ⟨h1, h2, h3, h4, h5, h6, h7, h8, h9, h10⟩ := h
  simp only [beq_eq_false_iff_ne] at h1 h2 h3 h4 h5 h6 h7 h8 h9 h10
  unfold fmI
  rw [if_neg h1, if_neg h2, if_neg h3, if_neg h4, if_neg h5, if_neg h6, if_neg h7, if_neg h8, if_neg h9, if_neg h10]
@[reducible] def fmV (f : Fm) : DV := .tup [.agg [.str f.nm, .bool f.w, .bool f.s, .bool f.b, .bool f.n], .bool f.ok]
noncomputable def s_of : List DV → Prop × DV := spec1 eI fun op => (True, fmV (fmI op))
theorem s_of_at (op : Int) : s_of [.int .i64 op] = (True, fmV (fmI op)) := spec1_at inj_I _ op
set_option maxHeartbeats 1000000 in
theorem ok_instr_of : OkP Tryz.prog 129 s_of := by
  refine OkP.mk1 (ps := []) (hs := []) trivial trivial m_instr_of fun op _ => ?_
  rcases opCases op with h | rfl | rfl | rfl | rfl | rfl | rfl | rfl | rfl | rfl | rfl
  · rw [fmI_no h]
    (have hcondQ := Bool.and_self; refine Todo.of ?_); (repeat' (first | ((with_reducible refine Todo.to ?_); (repeat (simp only [↓rP, rT, rU, eI, buildCells, dvalX, dval, dBin, dInt, dLoad, cellsAt, retV, retL, DR.val, fzT, fzVs, fzV, fz1, DV.immB, dStore, DV.one, fzL, cellsOf, setFrom, Nat.reduceEqDiff, Nat.reduceAdd, ↓reduceIte, reduceCtorEq, Nat.reduceLeDiff, forall_const, d_instr_of, h.n1, h.n2, h.n3, h.n4, h.n5, h.n6, h.n7, h.n8, h.n9, h.n10 ])))))
  all_goals (have hcondQ := Bool.and_self; refine Todo.of ?_); (repeat' (first | ((with_reducible refine Todo.to ?_); (repeat (simp only [↓rP, rT, rU, eI, buildCells, dvalX, dval, dBin, dInt, dLoad, cellsAt, retV, retL, DR.val, fzT, fzVs, fzV, fz1, DV.immB, dStore, DV.one, fzL, cellsOf, setFrom, DV.isU, Nat.reduceEqDiff, Nat.reduceAdd, ↓reduceIte, reduceCtorEq, Nat.reduceLeDiff, Int.reduceBEq, forall_const, d_instr_of ]))) | ((with_reducible refine And.intro ?_ ?_); · trivial) | fail))
  all_goals rfl
noncomputable def s_within : List DV → Prop × DV := spec3 eI eI eI fun n lo hi => (True, .bool (decide (lo ≤ n) && decide (n ≤ hi)))
theorem s_within_at (n : Int) (lo : Int) (hi : Int) : s_within [.int .i64 n, .int .i64 lo, .int .i64 hi] = (True, .bool (decide (lo ≤ n) && decide (n ≤ hi))) := spec3_at inj_I inj_I inj_I _ n lo hi
theorem ok_instr_within : OkP Tryz.prog 131 s_within := by
  refine OkP.mk3 (ps := []) (hs := []) trivial trivial m_instr_within fun n lo hi _ => ?_
  by_cases h : lo ≤ n
  · (have hcondQ := Bool.and_self; refine Todo.of ?_); (repeat' (first | ((with_reducible refine Todo.to ?_); (repeat (simp only [↓rP, rT, rU, eI, dvalX, dval, dBin, dInt, retV, DR.val, fzT, fzV, fz1, DV.immB, Nat.reduceEqDiff, ↓reduceIte, reduceCtorEq, d_instr_within, h ])))))
  · (have hcondQ := Bool.and_self; refine Todo.of ?_); (repeat' (first | ((with_reducible refine Todo.to ?_); (repeat (simp only [↓rP, rT, rU, eI, dvalX, dval, dBin, dInt, retV, DR.val, fzT, fzV, fz1, DV.immB, Nat.reduceEqDiff, ↓reduceIte, reduceCtorEq, d_instr_within, h ])))))
def firstI (op a : Int) : Bool :=
  if op = 1 then decide (1 ≤ a) && decide (a ≤ 1000) else if op = 4 then a == 1 || a == 2 else if op = 5 then decide (3 ≤ a) && decide (a ≤ 16) else if op = 10 then a == 0 else decide (0 ≤ a) && decide (a ≤ 65535)
def rightI (x : In4) : Bool := (fmI x.op).ok && firstI x.op x.a && ((fmI x.op).n || x.n == 0) && (if (fmI x.op).b then decide (1 ≤ x.b) && decide (x.b ≤ 8) else x.b == 0)
noncomputable def s_first : List DV → Prop × DV := spec1 eIn4 fun x => (True, .bool (firstI x.op x.a))
theorem s_first_at (x : In4) : s_first [.agg (cIn x)] = (True, .bool (firstI x.op x.a)) := spec1_at inj_In4 _ x
set_option maxHeartbeats 1000000 in
theorem ok_instr_first : OkP Tryz.prog 130 s_first := by
  refine OkP.mk1 (ps := [(131, s_within)]) (hs := []) ⟨ok_instr_within, trivial⟩ trivial m_instr_first fun x _ => ?_
  obtain ⟨op, a, b, n⟩ := x
  rcases opCases op with h | rfl | rfl | rfl | rfl | rfl | rfl | rfl | rfl | rfl | rfl
  · have e : firstI op a = (decide (0 ≤ a) && decide (a ≤ 65535)) := by
      obtain ⟨h1, h2, h3, h4, h5, h6, h7, h8, h9, h10⟩ := h
      simp only [beq_eq_false_iff_ne] at h1 h2 h3 h4 h5 h6 h7 h8 h9 h10
      simp only [firstI, if_neg h1, if_neg h4, if_neg h5, if_neg h10]
    simp only [e]
    (have hcondQ := Bool.and_self; refine Todo.of ?_); (repeat' (first | ((with_reducible refine Todo.to ?_); (repeat (simp only [↓rP, rT, rU, eA, dvalX, dval, dBin, dInt, dLoad, cellsAt, retV, DR.val, fzT, fzV, fz1, DV.immB, dCallP, viewVs, viewV, view1, noMemV, noMem, DV.one, alive, cellsOf, Nat.reduceEqDiff, Nat.reduceAdd, ↓reduceIte, reduceCtorEq, Nat.reduceLT, forall_const, d_instr_first, s_within_at, eIn4, h.n1, h.n4, h.n5, h.n10 ])))))
  all_goals (have hcondQ := Bool.and_self; refine Todo.of ?_); (repeat' (first | ((with_reducible refine Todo.to ?_); (repeat (simp only [↓rP, rT, rU, eA, dvalX, dval, dBin, dInt, dLoad, cellsAt, retV, DR.val, fzT, fzV, fz1, DV.immB, dCallP, viewVs, viewV, view1, noMemV, noMem, DV.one, alive, cellsOf, Nat.reduceEqDiff, Nat.reduceAdd, ↓reduceIte, reduceCtorEq, Nat.reduceLT, Int.reduceBEq, forall_const, d_instr_first, s_within_at, eIn4, hcondQ]))) | (((((with_reducible refine dops_guardI (t := ?_) ?_ (fun hcQ => ?_) (fun hcQ => ?_)); rotate_left; · (rfl))) <;> (have hn := hcQ; have hcondQ := hcQ) <;> (try simp only [beq_iff_eq, ne_eq, beq_eq_false_iff_ne] at hn) <;> (refine Todo.of ?_))) | fail))
  all_goals simp_all [firstI]
end Go.Proofs.YtfaailjhioobhaaGreat

/- Instructions: the document's; both sides' texts. -/
set_option linter.all false
set_option maxRecDepth 20000
namespace Go.Proofs.YtfaailjhioobhaaGreat
open Go.Nk

noncomputable def s_IRight : List DV → Prop × DV := spec1 eIn4 fun x => (True, .bool (rightI x))
theorem s_IRight_at (x : In4) : s_IRight [.agg (cIn x)] = (True, .bool (rightI x)) := spec1_at inj_In4 _ x
set_option maxHeartbeats 2000000 in
theorem ok_instr_Right : OkP Tryz.prog 108 s_IRight := by
  refine OkP.mk1 (ps := [(129, s_of), (130, s_first), (131, s_within)]) (hs := []) ⟨ok_instr_of, ok_instr_first, ok_instr_within, trivial⟩ trivial m_instr_Right fun x _ => ?_
  obtain ⟨op, a, b, n⟩ := x
  have e1 := s_of_at op
  have e2 := s_first_at ⟨op, a, b, n⟩
  simp only [fmV] at e1
  simp only [cIn] at e2
  generalize hf : fmI op = f at e1
  have hr : rightI ⟨op, a, b, n⟩ = (f.ok && firstI op a && (f.n || n == 0) && (if f.b then decide (1 ≤ b) && decide (b ≤ 8) else b == 0)) := by rw [← hf]; rfl
  rw [hr]
  obtain ⟨nm, w, s, fb, fn, ok⟩ := f
  generalize firstI op a = r at e2
  cases ok
  · (have hcondQ := Bool.and_self; refine Todo.of ?_); (repeat' (first | ((with_reducible refine Todo.to ?_); (repeat (simp only [↓rP, rT, rU, eA, dvalX, dval, dUn, dLoad, cellsAt, retV, DR.val, fzT, fzVs, fzV, fz1, DV.immB, dCallP, viewVs, viewV, view1, noMemV, noMem, dStore, DV.one, alive, cellsOf, setFrom, Nat.reduceEqDiff, Nat.reduceAdd, ↓reduceIte, reduceCtorEq, Nat.reduceLeDiff, Nat.reduceLT, forall_const, d_instr_Right, eIn4, e1 , hcondQ])))))
  cases r
  · (have hcondQ := Bool.and_self; refine Todo.of ?_); (repeat' (first | ((with_reducible refine Todo.to ?_); (repeat (simp only [↓rP, rT, rU, eA, dvalX, dval, dUn, dLoad, cellsAt, retV, DR.val, fzT, fzVs, fzV, fz1, DV.immB, dCallP, viewVs, viewV, view1, viewL, noMemV, noMem, dStore, DV.one, alive, cellsOf, setFrom, Nat.reduceEqDiff, Nat.reduceAdd, ↓reduceIte, reduceCtorEq, Nat.reduceLeDiff, Nat.reduceLT, forall_const, d_instr_Right, eIn4, e1, e2 , hcondQ])))))
  cases fn <;> cases fb
  · by_cases n0 : n = 0
    · have n1 : (n != 0) = false := by simp [n0]
      (have hcondQ := Bool.and_self; refine Todo.of ?_); (repeat' (first | ((with_reducible refine Todo.to ?_); (repeat (simp only [↓rP, rT, rU, eA, dvalX, dval, dBin, dInt, dUn, dLoad, cellsAt, retV, DR.val, fzT, fzVs, fzV, fz1, DV.immB, dCallP, viewVs, viewV, view1, viewL, noMemV, noMem, dStore, DV.one, alive, cellsOf, setFrom, Nat.reduceEqDiff, Nat.reduceAdd, ↓reduceIte, reduceCtorEq, Nat.reduceLeDiff, Nat.reduceLT, forall_const, d_instr_Right, eIn4, e1, e2, n1 , hcondQ])))))
      all_goals simp_all
    · have n1 : (n != 0) = true := by simpa using n0
      (have hcondQ := Bool.and_self; refine Todo.of ?_); (repeat' (first | ((with_reducible refine Todo.to ?_); (repeat (simp only [↓rP, rT, rU, eA, dvalX, dval, dBin, dInt, dUn, dLoad, cellsAt, retV, DR.val, fzT, fzVs, fzV, fz1, DV.immB, dCallP, viewVs, viewV, view1, viewL, noMemV, noMem, dStore, DV.one, alive, cellsOf, setFrom, Nat.reduceEqDiff, Nat.reduceAdd, ↓reduceIte, reduceCtorEq, Nat.reduceLeDiff, Nat.reduceLT, forall_const, d_instr_Right, eIn4, e1, e2, n1 , hcondQ])))))
      all_goals simp_all
  · by_cases n0 : n = 0
    · have n1 : (n != 0) = false := by simp [n0]
      (have hcondQ := Bool.and_self; refine Todo.of ?_); (repeat' (first | ((with_reducible refine Todo.to ?_); (repeat (simp only [↓rP, rT, rU, eA, dvalX, dval, dBin, dInt, dUn, dLoad, cellsAt, retV, DR.val, fzT, fzVs, fzV, fz1, DV.immB, dCallP, viewVs, viewV, view1, viewL, noMemV, noMem, dStore, DV.one, alive, cellsOf, setFrom, Nat.reduceEqDiff, Nat.reduceAdd, ↓reduceIte, reduceCtorEq, Nat.reduceLeDiff, Nat.reduceLT, forall_const, d_instr_Right, s_within_at, eIn4, e1, e2, n1 , hcondQ])))))
      all_goals simp_all
    · have n1 : (n != 0) = true := by simpa using n0
      (have hcondQ := Bool.and_self; refine Todo.of ?_); (repeat' (first | ((with_reducible refine Todo.to ?_); (repeat (simp only [↓rP, rT, rU, eA, dvalX, dval, dBin, dInt, dUn, dLoad, cellsAt, retV, DR.val, fzT, fzVs, fzV, fz1, DV.immB, dCallP, viewVs, viewV, view1, viewL, noMemV, noMem, dStore, DV.one, alive, cellsOf, setFrom, Nat.reduceEqDiff, Nat.reduceAdd, ↓reduceIte, reduceCtorEq, Nat.reduceLeDiff, Nat.reduceLT, forall_const, d_instr_Right, eIn4, e1, e2, n1 , hcondQ])))))
      all_goals simp_all
  · (have hcondQ := Bool.and_self; refine Todo.of ?_); (repeat' (first | ((with_reducible refine Todo.to ?_); (repeat (simp only [↓rP, rT, rU, eA, dvalX, dval, dBin, dInt, dUn, dLoad, cellsAt, retV, DR.val, fzT, fzVs, fzV, fz1, DV.immB, dCallP, viewVs, viewV, view1, viewL, noMemV, noMem, dStore, DV.one, alive, cellsOf, setFrom, Nat.reduceEqDiff, Nat.reduceAdd, ↓reduceIte, reduceCtorEq, Nat.reduceLeDiff, Nat.reduceLT, forall_const, d_instr_Right, eIn4, e1, e2 , hcondQ])))))
    all_goals simp_all
  · (have hcondQ := Bool.and_self; refine Todo.of ?_); (repeat' (first | ((with_reducible refine Todo.to ?_); (repeat (simp only [↓rP, rT, rU, eA, dvalX, dval, dUn, dLoad, cellsAt, retV, DR.val, fzT, fzVs, fzV, fz1, DV.immB, dCallP, viewVs, viewV, view1, viewL, noMemV, noMem, dStore, DV.one, alive, cellsOf, setFrom, Nat.reduceEqDiff, Nat.reduceAdd, ↓reduceIte, reduceCtorEq, Nat.reduceLeDiff, Nat.reduceLT, forall_const, d_instr_Right, s_within_at, eIn4, e1, e2 , hcondQ])))))
    all_goals simp_all
structure ok64 (x : In4) : Prop where
  a : okI64 x.a
  b : okI64 x.b
  n : okI64 x.n
theorem right_op {x : In4} (h : rightI x = true) : okOp x.op := by
  rcases opCases x.op with ho | ho
  · simp [rightI, fmI_no ho] at h
  · exact ho
end Go.Proofs.YtfaailjhioobhaaGreat

/- Instructions that are written: one after the other. -/
set_option linter.all false
set_option maxRecDepth 20000
namespace Go.Proofs.YtfaailjhioobhaaGreat
open Go.Nk

/-! A writer that is well, in a heap. -/
def hw (g : Bool) (hp : List DObj) (n m : Nat) (b : List UInt8) : List DObj := setW g hp n m (some b)
section
variable {g : Bool} {hp t : List DObj} {n m : Nat} {b b' : List UInt8} {o o1 o2 o3 o' : DObj}
theorem hw_len : (hw g hp n m b).length = hp.length := by simp [hw, setW]
theorem hw_is (h1 : n < hp.length) (h2 : m < hp.length) (h3 : n ≠ m) : isW g (hw g hp n m b ++ t) n m (some b) := by
  refine ⟨?_, ?_, h3⟩
  · rw [List.getElem?_append_left (by rw [hw_len]; exact h1)]
    simp [hw, setW, h1]
  · rw [List.getElem?_append_left (by rw [hw_len]; exact h2)]
    simp [hw, setW, h2, h3]
theorem hw_set (h1 : n < hp.length) (h2 : m < hp.length) (h3 : n ≠ m) : setW g (hw g hp n m b ++ t) n m (some b') = hw g hp n m b' ++ t := by
  show ((hw g hp n m b ++ t).set m _).set n _ = _
  rw [List.set_append_left _ _ (by rw [hw_len]; exact h2), List.set_append_left _ _ (by simp [hw_len]; exact h1)]
  congr 1
  simp only [hw, setW]
  rw [List.set_comm _ _ (Ne.symm h3), List.set_set, List.set_comm _ _ h3, List.set_set]
theorem hw_b : (hw g hp n m b ++ (o :: t))[hp.length]? = some o := by
  rw [List.getElem?_append_right (by simp [hw_len])]; simp [hw_len]
theorem hw_b1 : (hw g hp n m b ++ (o1 :: o :: t))[hp.length + 1]? = some o := by
  rw [List.getElem?_append_right (by simp [hw_len])]; simp [hw_len]
theorem hw_b2 : (hw g hp n m b ++ (o1 :: o2 :: o :: t))[hp.length + 2]? = some o := by
  rw [List.getElem?_append_right (by simp [hw_len])]; simp [hw_len]
theorem hw_sb2 : (hw g hp n m b ++ (o1 :: o2 :: o :: t)).set (hp.length + 2) o' = hw g hp n m b ++ (o1 :: o2 :: o' :: t) := by
  rw [List.set_append_right _ _ (by simp [hw_len])]; simp [hw_len]
theorem hw_end (h1 : n < hp.length) (h2 : m < hp.length) : ∀ (i : Nat) (x : DObj), (hw g hp n m b)[i]? = some x → hp[i]? = some x ∨ x.cut hp.length = x := by
  intro i x hx
  simp only [hw, setW] at hx
  by_cases e1 : i = n
  · subst e1
    rw [List.getElem?_set_self (by rw [List.length_set]; exact h1)] at hx
    injection hx with hx; subst hx
    refine .inr ?_
    simp [DObj.cut, DV.cut, DV.inB, h2]
  · rw [List.getElem?_set_ne (fun e => e1 e.symm)] at hx
    by_cases e2 : i = m
    · subst e2
      rw [List.getElem?_set_self h2] at hx
      injection hx with hx; subst hx; exact .inr rfl
    · rw [List.getElem?_set_ne (fun e => e2 e.symm)] at hx
      exact .inl hx
end
theorem hw_num {hp : List DObj} {n m : Nat} (h1 : n < hp.length) (h2 : m < hp.length) (h3 : n ≠ m) (b : List UInt8) (t : List DObj) {k z : Int} (hb : b.length + 4 ≤ 4294967296) (hz : z = 1 ∨ z = 2) (hk : 0 ≤ k ∧ k < 256 ^ z.toNat) :
    s_wNum [.ptr n 1 0 0, .int .i64 k, .int .i64 z] (hw true hp n m b ++ t) = ⟨True, .tup [], hw true hp n m (b ++ putL k.toNat z.toNat) ++ t⟩ := by
  have hk2 : k < 65536 := by rcases hz with rfl | rfl <;> simp at hk <;> omega
  rw [s_wNum_at (hw_is h1 h2 h3), eq_true (show b.length + 4 ≤ 4294967296 ∧ k < 9223372036854775808 by omega)]
  have e : wNum b k z = some (b ++ putL k.toNat z.toNat) := by
    unfold wNum
    rw [if_neg]
    simp only [not_or]
    refine ⟨by omega, by omega, by omega, ?_⟩
    have := hk.2
    push_cast
    omega
  rw [e, hw_set h1 h2 h3]
def intL (x : Int) : List UInt8 := putL (intF x).length 1 ++ intF x
theorem wLen_int (b : List UInt8) (x : Int) : wLen b (intF x) 1 = some (b ++ intL x) := by
  have := intF_length x
  have e : wNum b (intF x).length 1 = some (b ++ putL (intF x).length 1) := by
    unfold wNum
    rw [if_neg]
    · rfl
    · simp only [not_or]
      exact ⟨by omega, by omega, by omega, by simp; omega⟩
  unfold wLen
  rw [e]
  simp [intL]
theorem hw_int {hp : List DObj} {n m : Nat} (h1 : n < hp.length) (h2 : m < hp.length) (h3 : n ≠ m) (b : List UInt8) (t : List DObj) {x : Int} (hb : b.length + 20 ≤ 4294967296) (hx : -9223372036854775808 ≤ x ∧ x < 9223372036854775808) :
    s_wInt [.ptr n 1 0 0, .int .i64 x] (hw true hp n m b ++ t) = ⟨True, .tup [], hw true hp n m (b ++ intL x) ++ t⟩ := by
  rw [s_wInt_at (hw_is h1 h2 h3), eq_true (show b.length + 20 ≤ 4294967296 ∧ -9223372036854775808 ≤ x ∧ x < 9223372036854775808 from ⟨hb, hx⟩), wLen_int, hw_set h1 h2 h3]
/-- An instruction's bytes. -/
def bytesI (x : In4) : List UInt8 :=
  putL x.op.toNat 1 ++ ((if (fmI x.op).w then putL x.a.toNat 2 else []) ++ (if (fmI x.op).s then putL x.a.toNat 1 else []) ++ (if (fmI x.op).b then putL x.b.toNat 1 else []) ++ (if (fmI x.op).n then intL x.n else []))
theorem intL_len (x : Int) : (intL x).length ≤ 9 := by
  have := intF_length x
  simp only [intL, List.length_append, putL_length]; omega
theorem bytesI_len (x : In4) : (bytesI x).length ≤ 14 ∧ 1 ≤ (bytesI x).length := by
  have := intL_len x.n
  unfold bytesI
  simp only [List.length_append, putL_length]
  split <;> split <;> split <;> split <;> simp [putL_length] <;> omega
end Go.Proofs.YtfaailjhioobhaaGreat

/- Instructions that are written: both sides. -/
set_option linter.all false
set_option maxRecDepth 20000
namespace Go.Proofs.YtfaailjhioobhaaGreat
open Go.Nk

structure WX where
  n : Nat
  m : Nat
  b : List UInt8
  x : In4
def rWX (w : WX) (a : List DV) (hp : List DObj) : Prop := a = [.agg [.ptr w.n 1 0 0], .agg (cIn w.x)] ∧ isW true hp w.n w.m (some w.b)
theorem rWX_u : ∀ x y a hp, rWX x a hp → rWX y a hp → x = y := by
  rintro ⟨n, m, b, x⟩ ⟨n', m', b', x'⟩ a hp ⟨h1, h2⟩ ⟨h3, h4⟩
  subst h1
  simp only [List.cons.injEq, DV.agg.injEq, DV.ptr.injEq, and_true] at h3
  obtain ⟨h3, h5⟩ := h3
  subst h3
  have h6 := cIn_inj _ _ (by simpa [cIn] using h5)
  simp only at h2 h4
  have h7 := h2.1.symm.trans h4.1
  simp only [Option.some.injEq, DObj.mk.injEq, List.cons.injEq, DV.own.injEq, and_true, true_and] at h7
  obtain ⟨rfl, _⟩ := h7
  have h8 := h2.2.1.symm.trans h4.2.1
  simp only [Option.some.injEq, DObj.mk.injEq, true_and] at h8
  rw [bsl_inj h8, h6]
noncomputable def s_oInstr : List DV → List DObj → Res := specG rWX (fun w => (rightI w.x = true ∧ ok64 w.x ∧ w.b.length + 40 ≤ 4294967296, .tup [])) (fun w hp => hw true hp w.n w.m (w.b ++ bytesI w.x))
theorem s_oInstr_at {hp : List DObj} {n m : Nat} {b : List UInt8} (x : In4) (h : isW true hp n m (some b)) :
    s_oInstr [.agg [.ptr n 1 0 0], .agg (cIn x)] hp = ⟨rightI x = true ∧ ok64 x ∧ b.length + 40 ≤ 4294967296, .tup [], hw true hp n m (b ++ bytesI x)⟩ :=
  specG_at (x := ⟨n, m, b, x⟩) rWX_u ⟨rfl, h⟩
theorem right_rng {x : In4} (h : rightI x = true) : (0 ≤ x.op ∧ x.op < 256) ∧ ((fmI x.op).w = true → 0 ≤ x.a ∧ x.a < 65536) ∧ ((fmI x.op).s = true → 0 ≤ x.a ∧ x.a < 256) ∧ ((fmI x.op).b = true → 0 ≤ x.b ∧ x.b < 256) := by
  have ho := right_op h
  obtain ⟨op, a, b, n⟩ := x
  simp only at ho ⊢
  unfold okOp at ho
  rcases ho with rfl | rfl | rfl | rfl | rfl | rfl | rfl | rfl | rfl | rfl
  all_goals simp [rightI, fmI, firstI] at h ⊢
  all_goals omega
set_option maxHeartbeats 4000000 in
theorem ok_instr_out_instr : OkH Tryz.prog 109 s_oInstr := by
  refine OkH.mkG (ps := [(129, s_of)]) (hs := [(20, s_wNum), (107, s_wInt)]) ⟨ok_instr_of, trivial⟩ ⟨ok_wNum, ok_wInt, trivial⟩ m_instr_out_instr (fun x a hp h => by rw [h.1]; rfl) (fun w a hp h hp1 => ?_)
  obtain ⟨n, m, b, x⟩ := w
  obtain ⟨rfl, hW⟩ := h
  obtain ⟨hr, hx, hb⟩ := hp1
  simp only at hr hx hb hW ⊢
  have h1 := isW_lt hW
  have h2 := isW_lt2 hW
  have h3 := hW.2.2
  have es : (⟨frameFrom 0 [.agg [.ptr n 1 0 0], .agg (cIn x)], hp⟩ : DS) = ⟨frameFrom 0 [.agg [.ptr n 1 0 0], .agg (cIn x)], hw true hp n m b ++ []⟩ := by rw [List.append_nil, hw, set_w hW]
  rw [es]
  have rng := right_rng hr
  have ho := right_op hr
  have ef := s_of_at x.op
  have hp0 := putL_length x.op.toNat 1
  have hp2 := putL_length x.a.toNat 2
  have q0 := fun t => hw_num h1 h2 h3 b t (k := x.op) (z := 1) (by omega) (.inl rfl) (by simpa using rng.1)
  have q1 : (fmI x.op).w = true → ∀ t, _ := fun h t => hw_num h1 h2 h3 (b ++ putL x.op.toNat 1) t (k := x.a) (z := 2) (by rw [List.length_append]; omega) (.inr rfl) (by simpa using rng.2.1 h)
  have q2 : (fmI x.op).s = true → ∀ t, _ := fun h t => hw_num h1 h2 h3 (b ++ putL x.op.toNat 1) t (k := x.a) (z := 1) (by rw [List.length_append]; omega) (.inl rfl) (by simpa using rng.2.2.1 h)
  have q3 : (fmI x.op).b = true → ∀ t, _ := fun h t => hw_num h1 h2 h3 (b ++ (putL x.op.toNat 1 ++ putL x.a.toNat 2)) t (k := x.b) (z := 1) (by rw [List.length_append, List.length_append]; omega) (.inl rfl) (by simpa using rng.2.2.2 h)
  have q4 := fun t => hw_int h1 h2 h3 (b ++ (putL x.op.toNat 1 ++ putL x.a.toNat 2)) t (x := x.n) (by rw [List.length_append, List.length_append]; omega) hx.n
  clear hp0 hp2 rng hr
  obtain ⟨op, a, bb, nn⟩ := x
  simp only at q0 q1 q2 q3 q4 ho ef ⊢
  
  unfold okOp at ho
  rcases ho with rfl | rfl | rfl | rfl | rfl | rfl | rfl | rfl | rfl | rfl
  all_goals first | (have q1 := q1 rfl) | skip
  all_goals first | (have q2 := q2 rfl) | skip
  all_goals first | (have q3 := q3 rfl) | skip
  all_goals simp only [fmV, fmI, ↓reduceIte, Int.reduceEq] at ef
  all_goals simp only [Int.reduceToNat] at q0
  all_goals first | (simp only [Int.reduceToNat] at q1) | skip
  all_goals first | (simp only [Int.reduceToNat] at q2) | skip
  all_goals first | (simp only [Int.reduceToNat] at q3) | skip
  all_goals first | (simp only [Int.reduceToNat] at q4) | skip
  all_goals simp only [bytesI, fmI, ↓reduceIte, Int.reduceEq, Bool.false_eq_true, List.append_nil, List.nil_append]
  all_goals (have hcondQ := Bool.and_self; refine Todo.of ?_); (repeat' (first | ((with_reducible refine Todo.to ?_); (repeat (simp only [↓rP, rT, rU, dvalX, dval, frameFrom, dLoad, cellsAt, retV, retL, fzVs, fzV, fz1, DV.immB, dCallP, viewVs, viewV, view1, noMemV, noMem, dStore, DV.one, alive, cellsOf, setFrom, Nat.reduceEqDiff, Nat.reduceAdd, ↓reduceIte, reduceCtorEq, Int.reduceToNat, Nat.reduceLeDiff, Nat.reduceLT, forall_const, d_instr_out_instr, ef, q0, q1, q2, q3, q4, hw_len, hw_b, hw_b1, hw_b2, hw_sb2, List.append_assoc, Nat.add_zero , hcondQ]))) | ((with_reducible refine And.intro ?_ ?_); · first | (trivial) | ((simp; done))) | fail))
  all_goals exact hw_end h1 h2

/-- The bytes of instructions; or none. -/
def putI (l : List In4) : Option (List UInt8) := if l.all rightI && decide (l.length ≤ 6000) then some (l.flatMap bytesI) else none
def putV (s : Option (List UInt8)) : DV := .tup [.sl (bsl (s.getD [])), .bool s.isSome]
def okIns (l : List In4) : Prop := l.length ≤ 100000 ∧ ∀ x ∈ l, ok64 x
theorem flat_len : ∀ (l : List In4), (l.flatMap bytesI).length ≤ 14 * l.length ∧ l.length ≤ (l.flatMap bytesI).length
  | [] => by simp
  | x :: r => by
    have h1 := flat_len r
    have h2 := bytesI_len x
    simp only [List.flatMap_cons, List.length_append, List.length_cons]
    omega
theorem flat_take {l : List In4} {k : Nat} {x : In4} (h : l[k]? = some x) : (l.take (k + 1)).flatMap bytesI = (l.take k).flatMap bytesI ++ bytesI x := by
  rw [List.take_add_one, h]; simp
theorem oInstr_x (x : In4) (b : List UInt8) (o1 : DObj) (t : List DObj) (hr : rightI x = true) (hx : ok64 x) (hb : b.length + 40 ≤ 4294967296) :
    s_oInstr [.agg [.ptr 0 1 0 0], .agg (cIn x)] (⟨.loc, 2, [[.own 2 b.length 0 b.length, .bool true]]⟩ :: o1 :: ⟨.imm, 1, bsl b⟩ :: t) =
      ⟨True, .tup [], ⟨.loc, 2, [[.own 2 (b ++ bytesI x).length 0 (b ++ bytesI x).length, .bool true]]⟩ :: o1 :: ⟨.imm, 1, bsl (b ++ bytesI x)⟩ :: t⟩ := by
  rw [s_oInstr_at (n := 0) (m := 2) (b := b) x ⟨rfl, rfl, by decide⟩, eq_true (show rightI x = true ∧ ok64 x ∧ b.length + 40 ≤ 4294967296 from ⟨hr, hx, hb⟩)]
  rfl
theorem wBytes_x (b : List UInt8) (o1 : DObj) (t : List DObj) (h0 : b ≠ []) (hb : b.length ≤ 4294967296) :
    s_wBytes [.ptr 0 1 0 0] (⟨.loc, 2, [[.own 2 b.length 0 b.length, .bool true]]⟩ :: o1 :: ⟨.imm, 1, bsl b⟩ :: t) =
      ⟨True, .own (t.length + 3) b.length 0 b.length, (⟨.loc, 2, [[.own 2 b.length 0 b.length, .bool true]]⟩ :: o1 :: ⟨.imm, 1, bsl b⟩ :: t) ++ [⟨.imm, 1, bsl b⟩]⟩ := by
  rw [s_wBytes_at (n := 0) (m := 2) (b := b) ⟨rfl, rfl, by decide⟩, eq_true (show b ≠ [] ∧ b.length ≤ 4294967296 from ⟨h0, hb⟩)]
  rfl
/-- A copy of nothing; a writer of nothing. -/
noncomputable def s_CloneN : List DV → List DObj → Res := fun a hp => ⟨a = [.nil], .nil, hp⟩
theorem s_CloneN_at (hp : List DObj) : s_CloneN [.nil] hp = ⟨True, .nil, hp⟩ := by unfold s_CloneN; simp
theorem ok_CloneN : OkH Tryz.prog 64 s_CloneN := by
  refine OkH.mk (ps := []) (hs := []) (n := 1) trivial trivial m_slices_Clone_byte_byte fun a hp h => ?_
  have h : a = [.nil] := h
  subst h
  refine ⟨rfl, ?_⟩
  simp only [↓sqP, sqT, d_slices_Clone_byte_byte, s_CloneN, ↓dwp_cond, dvalX, dval, frameFrom, ↓reduceIte, retV, DR.val, reduceCtorEq]
noncomputable def s_wBytesN : List DV → List DObj → Res := fun a hp => ⟨∃ n, a = [.ptr n 1 0 0] ∧ hp[n]? = some ⟨.loc, 2, [[.nil, .bool true]]⟩, .nil, hp⟩
theorem s_wBytesN_at {hp : List DObj} {n : Nat} (h : hp[n]? = some ⟨.loc, 2, [[.nil, .bool true]]⟩) : s_wBytesN [.ptr n 1 0 0] hp = ⟨True, .nil, hp⟩ := by
  unfold s_wBytesN
  rw [eq_true (show ∃ n', [DV.ptr n 1 0 0] = [.ptr n' 1 0 0] ∧ hp[n']? = some ⟨.loc, 2, [[.nil, .bool true]]⟩ from ⟨n, rfl, h⟩)]
noncomputable def s_wOkN : List DV → List DObj → Res := fun a hp => ⟨∃ n, a = [.ptr n 1 0 0] ∧ hp[n]? = some ⟨.loc, 2, [[.nil, .bool true]]⟩, .bool true, hp⟩
theorem s_wOkN_at {hp : List DObj} {n : Nat} (h : hp[n]? = some ⟨.loc, 2, [[.nil, .bool true]]⟩) : s_wOkN [.ptr n 1 0 0] hp = ⟨True, .bool true, hp⟩ := by
  unfold s_wOkN
  rw [eq_true (show ∃ n', [DV.ptr n 1 0 0] = [.ptr n' 1 0 0] ∧ hp[n']? = some ⟨.loc, 2, [[.nil, .bool true]]⟩ from ⟨n, rfl, h⟩)]
theorem ok_wOkN : OkH Tryz.prog 57 s_wOkN := by
  refine OkH.mk (ps := []) (hs := []) (n := 1) trivial trivial m_reader_Writer_Ok fun a hp h => ?_
  obtain ⟨n, rfl, h⟩ := h
  refine ⟨rfl, ?_⟩
  have hl := (List.getElem?_eq_some_iff.1 h).1
  simp only [↓sqP, sqT, d_reader_Writer_Ok, s_wOkN, List.drop_succ_cons, dvalX, dops_some, dval, frameFrom, Nat.reduceEqDiff, ↓reduceIte, dLoad, cellsAt, retV, DR.val, reduceCtorEq, List.length_cons, List.length_nil, List.getD_cons_zero, alive, List.drop_zero, ne_eq, List.cons.injEq, h]
theorem ok_wBytesN : OkH Tryz.prog 24 s_wBytesN := by
  refine OkH.mk (ps := []) (hs := [(57, s_wOkN), (64, s_CloneN)]) (n := 1) trivial ⟨ok_wOkN, ok_CloneN, trivial⟩ m_reader_Writer_Bytes fun a hp h => ?_
  obtain ⟨n, rfl, h⟩ := h
  refine ⟨rfl, ?_⟩
  have hl := (List.getElem?_eq_some_iff.1 h).1
  have e1 := s_wOkN_at h
  have e2 := s_CloneN_at hp
  simp only [↓sqP, sqT, d_reader_Writer_Bytes, s_wBytesN, ↓dwp_cond, dvalX, dval, frameFrom, Nat.reduceEqDiff, Nat.reduceAdd, ↓reduceIte, dUn, dLoad, cellsAt, retV, DR.val, List.map_cons, List.map_nil, Bool.false_eq_true, reduceCtorEq, List.length_cons, List.length_nil, List.getD_cons_zero, Nat.reduceLT, alive, List.drop_zero, ne_eq, List.cons.injEq, e1, e2, h]
end Go.Proofs.YtfaailjhioobhaaGreat

/- Instructions' bytes: both sides. -/
set_option linter.all false
set_option maxRecDepth 20000
namespace Go.Proofs.YtfaailjhioobhaaGreat
open Go.Nk

theorem OkP.two {P : Program} {f : FuncId} {α : Type} {e : α → DV} (he : Inj e) {pre : α → Prop} {val : α → DV} {c : α → Prop} (h1 : OkP P f (spec1 e fun l => (pre l ∧ c l, val l))) (h2 : OkP P f (spec1 e fun l => (pre l ∧ ¬ c l, val l))) :
    OkP P f (spec1 e fun l => (pre l, val l)) := by
  intro a hp
  unfold spec1 at hp ⊢
  split at hp
  · rename_i h
    rw [dif_pos h]
    have hx := h.choose_spec
    generalize h.choose = l at *
    subst hx
    have hp : pre l := hp
    by_cases hc : c l
    · have := h1 [e l] (by rw [spec1_at he]; exact ⟨hp, hc⟩)
      rw [spec1_at he] at this
      exact this
    · have := h2 [e l] (by rw [spec1_at he]; exact ⟨hp, hc⟩)
      rw [spec1_at he] at this
      exact this
  · exact hp.elim
noncomputable def s_IPut : List DV → Prop × DV := spec1 eIn4s fun l => (okIns l, putV (putI l))
theorem s_IPut_at (l : List In4) : s_IPut [.sl (l.map cIn)] = (okIns l, putV (putI l)) := spec1_at inj_In4s _ l
theorem s_wNew_0 : s_wNew [] [] = ⟨True, .ptr 0 1 0 0, [⟨.loc, 2, [[.nil, .bool true]]⟩]⟩ := s_wNew_at []
set_option maxHeartbeats 2000000 in
theorem ok_instr_Put : OkP Tryz.prog 56 s_IPut := by
  refine OkP.two (c := fun l => l = []) inj_In4s ?_ ?_
  · refine OkP.mk1 (ps := [(108, s_IRight)]) (hs := [(18, s_wNew), (109, s_oInstr), (24, s_wBytesN)]) ⟨ok_instr_Right, trivial⟩ ⟨ok_wNew, ok_instr_out_instr, ok_wBytesN, trivial⟩ m_instr_Put fun l h => ?_
    obtain ⟨_, rfl⟩ := h
    have e0 : putI [] = some [] := rfl
    rw [e0]
    
    have eb : ∀ t, s_wBytesN [.ptr 0 1 0 0] (⟨.loc, 2, [[.nil, .bool true]]⟩ :: t) = ⟨True, .nil, ⟨.loc, 2, [[.nil, .bool true]]⟩ :: t⟩ := fun t => s_wBytesN_at rfl
    simp only []
    (have hcondQ := Bool.and_self; refine Todo.of ?_); (repeat' (first | ((with_reducible refine Todo.to ?_); (repeat (simp only [↓rP, rT, rU, eL, buildCells, dvalX, dval, dStore, DV.one, cellsOf, setFrom, DV.isU, Nat.reduceEqDiff, ↓reduceIte, Nat.reduceLeDiff, forall_const, d_instr_Put, eIn4s, s_wNew_0 ])))))
    refine dwp_gown_pass ?_
    (have hcondQ := Bool.and_self; refine Todo.of ?_); (repeat' (first | ((with_reducible refine Todo.to ?_); (repeat (simp only [↓rP, rT, rU, dvalX, dval, Nat.reduceEqDiff, ↓reduceIte, reduceCtorEq ])))))
    refine dwp_loop (fun _ : Unit => ⟨[(0, .sl []), (4, .ptr 1 1 0 0), (9, .sl []), (10, .int .i64 0), (11, .int .i64 0)], [⟨.loc, 2, [[.nil, .bool true]]⟩, ⟨.loc, 1, [[.ptr 0 1 0 0]]⟩]⟩) (fun _ => True) (fun _ => 0) () (Nat.zero_le _) (by simp only [cut_some, List.map_cons, List.map_nil, get_cons, Nk.get_nil, Nat.reduceEqDiff, ↓reduceIte, DV.cut, DV.inB, DObj.cut, List.take_nil, reduceCtorEq, decide_true, Nat.reduceLT, List.take_succ_cons] <;> rfl) trivial fun _ _ => ?_
    (have hcondQ := Bool.and_self; refine Todo.of ?_); (repeat' (first | ((with_reducible refine Todo.to ?_); (repeat (simp only [↓rP, rT, rU, dvalX, dval, dBin, dInt, dLoad, cellsAt, retV, retL, DR.val, fzT, fzVs, fzV, fz1, DV.immB, alive, Nat.reduceEqDiff, ↓reduceIte, reduceCtorEq, Int.reduceLT, eb ])))))
    all_goals rfl
  · refine OkP.mk1 (ps := [(108, s_IRight)]) (hs := [(18, s_wNew), (109, s_oInstr), (24, s_wBytes)]) ⟨ok_instr_Right, trivial⟩ ⟨ok_wNew, ok_instr_out_instr, ok_wBytes, trivial⟩ m_instr_Put fun l h => ?_
    obtain ⟨⟨hl, hx⟩, hne⟩ := h
    
    (have hcondQ := Bool.and_self; refine Todo.of ?_); (repeat' (first | ((with_reducible refine Todo.to ?_); (repeat (simp only [↓rP, rT, rU, eL, buildCells, dvalX, dval, dStore, DV.one, cellsOf, setFrom, DV.isU, Nat.reduceEqDiff, ↓reduceIte, Nat.reduceLeDiff, forall_const, d_instr_Put, eIn4s, s_wNew_0 ])))))
    refine dwp_gown_grow ?_
    (have hcondQ := Bool.and_self; refine Todo.of ?_); (repeat' (first | ((with_reducible refine Todo.to ?_); (repeat (simp only [↓rP, rT, rU, dvalX, dval, Nat.reduceEqDiff, Nat.reduceAdd, ↓reduceIte, reduceCtorEq ])))))
    have hB : ∀ k, ((l.take k).flatMap bytesI).length ≤ 1400000 := fun k => by
      have := (flat_len (l.take k)).1
      rw [List.length_take] at this
      omega
    refine dwp_each l (fun (k : Nat) (_ : Unit) => ⟨[(0, .sl (l.map cIn)), (4, .ptr 1 1 0 0), (9, .sl (l.map cIn)), (10, .int .i64 l.length), (11, .int .i64 k)], [⟨.loc, 2, [[.own 2 ((l.take k).flatMap bytesI).length 0 ((l.take k).flatMap bytesI).length, .bool true]]⟩, ⟨.loc, 1, [[.ptr 0 1 0 0]]⟩, ⟨.imm, 1, bsl ((l.take k).flatMap bytesI)⟩]⟩)
      (fun _ r _ => r.all rightI = l.all rightI) () (Nat.zero_le _) (by simp only [cut_some, List.map_cons, List.map_nil, get_cons, Nk.get_nil, Nat.reduceEqDiff, ↓reduceIte, DV.cut, DV.inB, DObj.cut, List.take_nil, List.take_zero, reduceCtorEq, decide_true, Nat.reduceLT, List.take_succ_cons] <;> rfl) rfl (fun k x rr _ d hgx hd hr => ?_) fun k _ hk hr => ?_
    · have w : IntKind.i64.wrap ((k : Int) + 1) = ((k + 1 : Nat) : Int) := by rw [wrap_i64_id (by omega)]; omega
      have k0 : (0 : Int) ≤ k := Int.natCast_nonneg k
      have hrow := map_getD cIn hgx
      have hxm := List.mem_of_getElem? hgx
      have er := s_IRight_at x
      cases c : rightI x
      · rw [c] at er
        have e : putI l = none := by
          unfold putI
          rw [← hr, List.all_cons, c]; rfl
        rw [e]
        (have hcondQ := Bool.and_self; refine Todo.of ?_); (repeat' (first | ((with_reducible refine Todo.to ?_); (repeat (simp only [↓rP, rT, rU, dvalX, dval, dBin, dInt, dUn, dLoad, cellsAt, retV, retL, DR.val, fzT, fzVs, fzV, fz1, DV.immB, dCallP, viewVs, viewV, view1, viewL, noMemV, noMem, dStore, DV.one, cellsOf, setFrom, Nat.reduceEqDiff, Nat.reduceAdd, ↓reduceIte, reduceCtorEq, Nat.reduceLeDiff, forall_const, d, k0, hrow, er ])))))
        all_goals rfl
      · rw [c] at er
        have eo := fun t => oInstr_x x ((l.take k).flatMap bytesI) ⟨.loc, 1, [[.ptr 0 1 0 0]]⟩ t c (hx x hxm) (by have := hB k; omega)
        have hft := flat_take hgx
        (have hcondQ := Bool.and_self; refine Todo.of ?_); (repeat' (first | ((with_reducible refine Todo.to ?_); (repeat (simp only [↓rP, rT, rU, dvalX, dval, dBin, dInt, dUn, dLoad, cellsAt, DV.immB, dCallP, viewVs, viewV, view1, viewL, noMemV, noMem, dStore, DV.one, cellsOf, setFrom, Nat.reduceEqDiff, Nat.reduceAdd, ↓reduceIte, reduceCtorEq, Nat.reduceLeDiff, forall_const, d, k0, hrow, er, eo, w ])))))
        exact ⟨(), by simp only [cut_some, List.map_cons, List.map_nil, get_cons, Nk.get_nil, Nat.reduceEqDiff, ↓reduceIte, Nat.succ_ne_self, DV.cut, DV.inB, DObj.cut, List.take_zero, reduceCtorEq, decide_true, Nat.reduceLT, List.take_succ_cons, Int.natCast_add, Int.natCast_one, List.length_append, hft] <;> rfl, by rw [← hr, List.all_cons, c]; rfl⟩
    · have d2 : ¬ k < l.length := by omega
      have hft : (l.take k).flatMap bytesI = l.flatMap bytesI := by rw [List.take_of_length_le (by omega)]
      have hfl := flat_len l
      rw [hft]
      have hne2 : l.flatMap bytesI ≠ [] := fun e => by
        have h2 := hfl.2
        rw [e] at h2
        exact hne (List.length_eq_zero_iff.1 (Nat.le_zero.1 h2))
      have eb := fun t => wBytes_x (l.flatMap bytesI) ⟨.loc, 1, [[.ptr 0 1 0 0]]⟩ t hne2 (by omega)
      have hall : l.all rightI = true := by rw [← hr]; rfl
      by_cases q : 6000 < l.length
      · have q2 : (6000 : Int) < l.length := by omega
        have e : putI l = none := by
          unfold putI
          rw [hall, decide_eq_false (by omega)]; rfl
        rw [e]
        (have hcondQ := Bool.and_self; refine Todo.of ?_); (repeat' (first | ((with_reducible refine Todo.to ?_); (repeat (simp only [↓rP, rT, rU, dvalX, dval, dBin, dInt, retV, retL, DR.val, fzT, fzVs, fzV, fz1, DV.immB, Nat.reduceEqDiff, ↓reduceIte, reduceCtorEq, d2, q2 ])))))
        all_goals rfl
      · have q2 : ¬ (6000 : Int) < l.length := by omega
        have e : putI l = some (l.flatMap bytesI) := by
          unfold putI
          rw [hall, decide_eq_true (by omega)]; rfl
        rw [e]
        (have hcondQ := Bool.and_self; refine Todo.of ?_); (repeat' (first | ((with_reducible refine Todo.to ?_); (repeat (simp only [↓rP, rT, rU, dvalX, dval, dBin, dInt, dLoad, cellsAt, retV, retL, DR.val, fzT, fzVs, fzV, fz1, DV.immB, elemsOf, alive, freezeAt, Nat.reduceEqDiff, ↓reduceIte, reduceCtorEq, d2, q2, eb ]))) | ((with_reducible refine And.intro ?_ ?_); · omega) | fail))
        rw [List.take_of_length_le (by rw [bsl_length]; exact Nat.le_refl _)]
        rfl
end Go.Proofs.YtfaailjhioobhaaGreat

/- An instruction that is read. -/
set_option linter.all false
set_option maxRecDepth 20000
namespace Go.Proofs.YtfaailjhioobhaaGreat
open Go.Nk

/-! One object of a heap, and some behind. -/
section
variable {hp t : List DObj} {m : Nat} {o o' a b c : DObj}
theorem one_b3 : (one hp m o ++ (a :: b :: c :: o' :: t))[hp.length + 3]? = some o' := by
  rw [List.getElem?_append_right (by simp [one])]; simp [one]
theorem one_setb2 : (one hp m o ++ (a :: b :: c :: t)).set (hp.length + 2) o' = one hp m o ++ (a :: b :: o' :: t) := by
  rw [List.set_append_right _ _ (by simp [one])]; simp [one]
theorem one_setb3 {d : DObj} : (one hp m o ++ (a :: b :: c :: d :: t)).set (hp.length + 3) o' = one hp m o ++ (a :: b :: c :: o' :: t) := by
  rw [List.set_append_right _ _ (by simp [one])]; simp [one]
end
theorem oP_cut (r : RS) (k : Nat) : (oP r).cut k = oP r := by
  rcases r with _ | ⟨l, a⟩ <;> rfl
/-! The program's. -/
def oneI (r : RS) : In4 × RS :=
  let f := fmI (numV r 1)
  let r1 := nextS r (szN 1)
  let r2 := if f.w then nextS r1 (szN 2) else r1
  let r3 := if f.s then nextS r2 (szN 1) else r2
  let r4 := if f.b then nextS r3 (szN 1) else r3
  let r5 := if f.n then intS r4 else r4
  (⟨numV r 1, if f.s then numV r2 1 else if f.w then numV r1 2 else 0, if f.b then numV r3 1 else 0, if f.n then intV r4 else 0⟩, r5)
def rRX (x : Nat × RS) (a : List DV) (hp : List DObj) : Prop := a = [.agg [.ptr x.1 1 0 0]] ∧ hp[x.1]? = some (oP x.2)
theorem rRX_u : ∀ x y a hp, rRX x a hp → rRX y a hp → x = y := by
  rintro ⟨n, r⟩ ⟨n', r'⟩ a hp ⟨h1, h2⟩ ⟨h3, h4⟩
  subst h1
  simp only [List.cons.injEq, DV.agg.injEq, DV.ptr.injEq, and_true] at h3
  subst h3
  have := h2.symm.trans h4
  simp only [Option.some.injEq] at this
  rw [oP_inj _ _ this]
noncomputable def s_iInstr : List DV → List DObj → Res := specG rRX (fun x => (okP x.2, .agg (cIn (oneI x.2).1))) (fun x hp => one hp x.1 (oP (oneI x.2).2))
theorem s_iInstr_at {hp : List DObj} {n : Nat} {r : RS} (h : hp[n]? = some (oP r)) : s_iInstr [.agg [.ptr n 1 0 0]] hp = ⟨okP r, .agg (cIn (oneI r).1), one hp n (oP (oneI r).2)⟩ := specG_at (x := (n, r)) rRX_u ⟨rfl, h⟩
theorem one_num {hp : List DObj} {n : Nat} (hn : n < hp.length) {r : RS} (h : okP r) (k : Int) (t : List DObj) : s_Num [.ptr n 1 0 0, .int .i64 k] (one hp n (oP r) ++ t) = ⟨True, .int .i64 (numV r k), one hp n (oP (nextS r (szN k))) ++ t⟩ := by
  rw [s_Num_at (one_get hn), eq_true h, one_set hn]
theorem one_int {hp : List DObj} {n : Nat} (hn : n < hp.length) {r : RS} (h : okP r) (t : List DObj) : s_rInt [.ptr n 1 0 0] (one hp n (oP r) ++ t) = ⟨True, .int .i64 (intV r), one hp n (oP (intS r)) ++ t⟩ := by
  rw [s_rInt_at (one_get hn), eq_true h, one_set hn]
set_option maxHeartbeats 4000000 in
theorem ok_instr_in_instr : OkH Tryz.prog 122 s_iInstr := by
  refine OkH.mkG (ps := [(129, s_of)]) (hs := [(76, s_Num), (121, s_rInt)]) ⟨ok_instr_of, trivial⟩ ⟨ok_reader_Num, ok_reader_Int, trivial⟩ m_instr_in_instr (fun x a hp h => by rw [h.1]; rfl) (fun x a hp h h1 => ?_)
  obtain ⟨n, r⟩ := x
  obtain ⟨rfl, hh⟩ := h
  have h1 : okP r := h1
  simp only at hh ⊢
  have hn := (List.getElem?_eq_some_iff.1 hh).1
  have es : (⟨frameFrom 0 [.agg [.ptr n 1 0 0]], hp⟩ : DS) = ⟨frameFrom 0 [.agg [.ptr n 1 0 0]], one hp n (oP r) ++ []⟩ := by rw [List.append_nil, one_is hh]
  rw [es]
  have q0 := one_num hn h1 1
  have hk1 := nextS_ok (szN 1) h1
  generalize ho : oneI r = O
  unfold oneI at ho
  dsimp only at ho
  generalize nextS r (szN 1) = r1 at q0 hk1 ho
  generalize numV r 1 = op at q0 ho
  have ef := s_of_at op
  have q1 := one_num hn hk1 2
  have q2 := one_num hn hk1 1
  have hk2 := nextS_ok (szN 2) hk1
  generalize nextS r1 (szN 2) = r2 at q1 hk2 ho
  have q3 := one_num hn hk2 1
  have q4 := one_int hn hk2
  
  rcases opCases op with h | rfl | rfl | rfl | rfl | rfl | rfl | rfl | rfl | rfl | rfl
  · simp only [fmI_no h, fmV, Bool.false_eq_true, ↓reduceIte] at ef ho
    subst ho
    (have hcondQ := Bool.and_self; refine Todo.of ?_); (repeat' (first | ((with_reducible refine Todo.to ?_); (repeat (simp only [↓rP, rT, rU, buildCells, dvalX, dval, frameFrom, dLoad, cellsAt, retV, DR.val, fzVs, fzV, fz1, DV.immB, dCallP, viewVs, viewV, view1, noMemV, noMem, dStore, DV.one, alive, cellsOf, setFrom, DV.isU, Nat.reduceEqDiff, Nat.reduceAdd, ↓reduceIte, reduceCtorEq, Nat.reduceLeDiff, Nat.reduceLT, forall_const, d_instr_in_instr, ef, q0, one_len, one_b, one_b1, one_b2, one_b3, one_setb1, one_setb2, one_setb3, List.append_assoc, Nat.add_zero , hcondQ]))) | ((with_reducible refine And.intro ?_ ?_); · first | (trivial) | ((simp; done))) | fail))
    all_goals exact one_end (oP_cut _ _)
  all_goals simp only [fmV, fmI, ↓reduceIte, Int.reduceEq, Bool.false_eq_true] at ef ho
  all_goals subst ho
  all_goals (have hcondQ := Bool.and_self; refine Todo.of ?_); (repeat' (first | ((with_reducible refine Todo.to ?_); (repeat (simp only [↓rP, rT, rU, buildCells, dvalX, dval, frameFrom, dLoad, cellsAt, retV, DR.val, fzVs, fzV, fz1, DV.immB, dCallP, viewVs, viewV, view1, noMemV, noMem, dStore, DV.one, alive, cellsOf, setFrom, DV.isU, Nat.reduceEqDiff, Nat.reduceAdd, ↓reduceIte, reduceCtorEq, Nat.reduceLeDiff, Nat.reduceLT, forall_const, d_instr_in_instr, ef, q0, q1, q2, q3, q4, one_len, one_b, one_b1, one_b2, one_b3, one_setb1, one_setb2, one_setb3, List.append_assoc, Nat.add_zero , hcondQ]))) | ((with_reducible refine And.intro ?_ ?_); · first | (trivial) | ((simp; done))) | fail))
  all_goals exact one_end (oP_cut _ _)

/-! The document's. -/
def oneQ (r : QS) : In4 × QS :=
  let f := fmI (qNumV r 1)
  let r1 := qS r (szN 1)
  let r2 := if f.w then qS r1 (szN 2) else r1
  let r3 := if f.s then qS r2 (szN 1) else r2
  let r4 := if f.b then qS r3 (szN 1) else r3
  let r5 := if f.n then qIntS r4 else r4
  (⟨qNumV r 1, if f.s then qNumV r2 1 else if f.w then qNumV r1 2 else 0, if f.b then qNumV r3 1 else 0, if f.n then qIntV r4 else 0⟩, r5)
theorem qIntS_fst (r : QS) : (qIntS r).1 = r.1 := by
  unfold qIntS
  split
  · split <;> rfl
  · rfl
theorem oneV_to (l : List UInt8) (s : Option Nat) : (oneI (toP l s)).1 = (oneQ (l, s)).1 ∧ (oneI (toP l s)).2 = toP l (oneQ (l, s)).2.2 ∧ (oneQ (l, s)).2.1 = l := by
  have hq : ∀ (r : QS) (k : Int), qS r k = (r.1, (qS r k).2) := fun r k => rfl
  have hi : ∀ r : QS, qIntS r = (r.1, (qIntS r).2) := fun r => by rw [← qIntS_fst r]
  unfold oneI oneQ
  simp only [numV_to, nextS_to]
  rw [hq (l, s) (szN 1)]
  simp only
  generalize (qS (l, s) (szN 1)).2 = s1
  generalize fmI (qNumV (l, s) 1) = f
  obtain ⟨nm, fw, fs, fb, fn, fo⟩ := f
  cases fw <;> cases fs <;> cases fb <;> cases fn <;> simp only [Bool.false_eq_true, ↓reduceIte, numV_to, nextS_to, intV_to, intS_to]
  all_goals (refine ⟨?_, ?_, ?_⟩ <;> first | rfl | trivial | exact qIntS_fst _)
end Go.Proofs.YtfaailjhioobhaaGreat

/- Bytes as instructions: both sides. -/
set_option linter.all false
set_option maxRecDepth 20000
namespace Go.Proofs.YtfaailjhioobhaaGreat
open Go.Nk

def getL : Nat → List UInt8 → Option Nat → List In4 → Option (List In4)
  | 0, _, _, _ => none
  | f + 1, l, s, acc => if qMore (l, s) then (if (oneQ (l, s)).2.2.isSome && rightI (oneQ (l, s)).1 && !(acc.length == 6000) then getL f l (oneQ (l, s)).2.2 (acc ++ [(oneQ (l, s)).1]) else none) else some acc
def getI (l : List UInt8) : Option (List In4) := getL (l.length + 1) l (some 0) []
def getV (o : Option (List In4)) : DV := .tup [.sl ((o.getD []).map cIn), .bool o.isSome]
theorem qS_step {l : List UInt8} {s : Option Nat} {k : Int} {a' : Nat} (hk : 0 ≤ k) (h : (qS (l, s) k).2 = some a') : ∃ a, s = some a ∧ a' = a + k.toNat ∧ a' ≤ l.length := by
  cases s with
  | none => cases h
  | some a =>
    have h : (nxt l (some a) k).2 = some a' := h
    simp only [nxt] at h
    split at h
    · injection h with h
      exact ⟨a, rfl, h.symm, by omega⟩
    · cases h
theorem qS_keep {l : List UInt8} {s : Option Nat} {k : Int} {a' : Nat} (h : (qS (l, s) k).2 = some a') : ∃ a, s = some a ∧ a ≤ a' := by
  cases s with
  | none => cases h
  | some a =>
    have h : (nxt l (some a) k).2 = some a' := h
    simp only [nxt] at h
    split at h
    · injection h with h
      exact ⟨a, rfl, by omega⟩
    · cases h
theorem qInt_keep {l : List UInt8} {s : Option Nat} {a' : Nat} (h : (qIntS (l, s)).2 = some a') : ∃ a, s = some a ∧ a ≤ a' := by
  unfold qIntS at h
  split at h
  · split at h
    · cases h
    · obtain ⟨b, hb, h1⟩ := qS_keep h
      obtain ⟨c, hc, h2⟩ := qS_keep hb
      exact ⟨c, hc, by omega⟩
  · cases h
def lq (r r' : QS) : Prop := ∀ a', r'.2 = some a' → ∃ a, r.2 = some a ∧ a ≤ a'
theorem lq_refl (r : QS) : lq r r := fun a h => ⟨a, h, Nat.le_refl _⟩
theorem lq_S {r0 r : QS} {k : Int} (h : lq r0 r) : lq r0 (qS r k) := fun a' h1 => by
  obtain ⟨b, hb, h2⟩ := qS_keep (l := r.1) (s := r.2) h1
  obtain ⟨c, hc, h3⟩ := h b hb
  exact ⟨c, hc, by omega⟩
theorem lq_I {r0 r : QS} (h : lq r0 r) : lq r0 (qIntS r) := fun a' h1 => by
  obtain ⟨b, hb, h2⟩ := qInt_keep (l := r.1) (s := r.2) h1
  obtain ⟨c, hc, h3⟩ := h b hb
  exact ⟨c, hc, by omega⟩
theorem oneQ_in {r : QS} (h : okQ r) : okQ (oneQ r).2 := by
  unfold oneQ
  dsimp only
  have h1 := qS_ok (szN 1) h
  generalize qS r (szN 1) = r1 at h1 ⊢
  have h2 := qS_ok (szN 2) h1
  split <;> split <;> split <;> split <;> first | exact qIntS_ok (qS_ok _ (qS_ok _ h2)) | exact qIntS_ok (qS_ok _ h2) | exact qIntS_ok h2 | exact qS_ok _ (qS_ok _ h2) | exact qS_ok _ h2 | exact h2 | exact qIntS_ok (qS_ok _ (qS_ok _ h1)) | exact qIntS_ok (qS_ok _ h1) | exact qIntS_ok h1 | exact qS_ok _ (qS_ok _ h1) | exact qS_ok _ h1 | exact h1
theorem oneQ_go {l : List UInt8} {a a' : Nat} (h : (oneQ (l, some a)).2.2 = some a') : a < a' := by
  unfold oneQ at h
  dsimp only at h
  have h1 : ∀ b, (qS (l, some a) (szN 1)).2 = some b → a < b := fun b hb => by
    obtain ⟨c, hc, h2, _⟩ := qS_step (by decide) hb
    injection hc with hc
    subst hc
    have : (szN 1).toNat = 1 := by decide
    omega
  have go : ∀ r1 : QS, ∀ r5 : QS, lq r1 r5 → r1 = qS (l, some a) (szN 1) → r5.2 = some a' → a < a' := fun r1 r5 hl e h5 => by
    obtain ⟨b, hb, h2⟩ := hl _ h5
    subst e
    have := h1 b hb
    omega
  refine go _ _ ?_ rfl h
  generalize qS (l, some a) (szN 1) = r1
  split <;> split <;> split <;> split <;> (repeat (first | exact lq_refl _ | refine lq_I ?_ | refine lq_S ?_))
theorem getL_stop {f : Nat} {l : List UInt8} {s : Option Nat} {acc : List In4} (h : qMore (l, s) = false) : getL (f + 1) l s acc = some acc := by unfold getL; rw [h]; rfl
theorem getL_bad {f : Nat} {l : List UInt8} {s : Option Nat} {acc : List In4} (h : qMore (l, s) = true) (h2 : ((oneQ (l, s)).2.2.isSome && rightI (oneQ (l, s)).1 && !(acc.length == 6000)) = false) : getL (f + 1) l s acc = none := by
  unfold getL; rw [if_pos h, if_neg (by rw [h2]; decide)]
theorem getL_go {f : Nat} {l : List UInt8} {s : Option Nat} {acc : List In4} (h : qMore (l, s) = true) (h2 : ((oneQ (l, s)).2.2.isSome && rightI (oneQ (l, s)).1 && !(acc.length == 6000)) = true) : getL (f + 1) l s acc = getL f l (oneQ (l, s)).2.2 (acc ++ [(oneQ (l, s)).1]) := by
  rw [getL, if_pos h, if_pos h2]
def fGetI (l : List UInt8) : Prop × DV := (l.length ≤ 131072, getV (getI l))
structure GI (l : List UInt8) (G : Option (List In4)) (f a : Nat) (acc : List In4) : Prop where
  ha : a ≤ l.length
  hf : l.length - a < f
  hg : getL f l (some a) acc = G
  hl : acc.length ≤ a
theorem in_snoc (l : List In4) (x : In4) : l.map cIn ++ [[.int .i64 x.op, .int .i64 x.a, .int .i64 x.b, .int .i64 x.n]] = (l ++ [x]).map cIn := by simp
set_option maxHeartbeats 2000000 in
theorem ok_instr_Get : OkP Tryz.prog 89 (specB1 fGetI) := by
  refine OkP.mk (ps := [(108, s_IRight)]) (hs := [(75, s_rFrom), (79, s_More), (122, s_iInstr), (78, s_Ok)]) (n := 1) ⟨ok_instr_Right, trivial⟩ ⟨ok_reader_From, ok_reader_More, ok_instr_in_instr, ok_reader_Ok, trivial⟩ m_instr_Get
    (specB1_ok fun l h => ?_)
  have h : l.length ≤ 131072 := h
  unfold fGetI
  dsimp only
  generalize hG : getI l = G
  
  have eF : ∀ o, s_rFrom [.sl (bsl l)] [o] = ⟨True, .ptr 1 1 0 0, [o, oP (some (l, 0))]⟩ := fun o => by
    rw [s_rFrom_at, eq_true (show l.length ≤ 4294967296 by omega)]; rfl
  (have hcondQ := Bool.and_self; refine Todo.of ?_); (repeat' (first | ((with_reducible refine Todo.to ?_); (repeat (simp only [↓rP, rT, rU, buildCells, dvalX, dval, dStore, DV.one, cellsOf, setFrom, DV.isU, Nat.reduceEqDiff, Nat.reduceAdd, ↓reduceIte, reduceCtorEq, Nat.reduceLeDiff, forall_const, d_instr_Get, eF ])))))
  refine dwp_loop (fun x : Nat × Nat × List In4 => ⟨[(4, .own 0 x.2.2.length 0 x.2.2.length), (5, .ptr 2 1 0 0)], [⟨.imm, 4, x.2.2.map cIn⟩, oP (some (l, x.2.1)), ⟨.loc, 1, [[.ptr 1 1 0 0]]⟩]⟩) (fun x => GI l G x.1 x.2.1 x.2.2) (fun x => l.length - x.2.1) (l.length + 1, 0, []) (Nat.zero_le _) (by simp only [cut_some, List.map_cons, List.map_nil, get_cons, Nk.get_nil, Nat.reduceEqDiff, ↓reduceIte, DV.cut, DV.inB, DObj.cut, List.take_nil, reduceCtorEq, decide_true, Nat.reduceLT, List.take_succ_cons, List.length_nil, oP] <;> rfl) ⟨Nat.zero_le _, by simp only; omega, hG, Nat.zero_le _⟩ fun x hx => ?_
  obtain ⟨f, a, acc⟩ := x
  obtain ⟨ha, hf, hg, hl⟩ := hx
  simp only at ha hf hg hl ⊢
  obtain ⟨f, rfl⟩ : ∃ f', f = f' + 1 := ⟨f - 1, by omega⟩
  have hok : okP (some (l, a)) := ⟨ha, by show l.length ≤ 4294967296; omega⟩
  have hokq : okQ (l, some a) := ⟨ha, by show l.length ≤ 4294967296; omega⟩
  have eM : ∀ o t, s_More [.ptr 1 1 0 0] (o :: oP (some (l, a)) :: t) = ⟨True, .bool (qMore (l, some a)), o :: oP (some (l, a)) :: t⟩ := fun o t => s_More_at (r := some (l, a)) rfl
  cases c : qMore (l, some a)
  · rw [getL_stop c] at hg
    rw [c] at eM
    subst hg
    (have hcondQ := Bool.and_self; refine Todo.of ?_); (repeat' (first | ((with_reducible refine Todo.to ?_); (repeat (simp only [↓rP, rT, rU, dvalX, dval, dLoad, cellsAt, retV, retL, DR.val, fzT, fzVs, fzV, fz1, DV.immB, elemsOf, alive, freezeAt, Nat.reduceEqDiff, ↓reduceIte, reduceCtorEq, in_tk0, eM ]))) | ((with_reducible refine And.intro ?_ ?_); · omega) | fail))
    rfl
  rw [c] at eM
  have hto := oneV_to l (some a)
  have eO : ∀ o t, s_iInstr [.agg [.ptr 1 1 0 0]] (o :: oP (some (l, a)) :: t) = ⟨True, .agg (cIn (oneQ (l, some a)).1), o :: oP (toP l (oneQ (l, some a)).2.2) :: t⟩ := fun o t => by
    rw [s_iInstr_at (r := some (l, a)) rfl, eq_true hok, ← hto.1, ← hto.2.1]; rfl
  have hin := oneQ_in hokq
  have hgo : ∀ a', (oneQ (l, some a)).2.2 = some a' → a < a' := fun a' => oneQ_go
  have hfst : (oneQ (l, some a)).2.1 = l := hto.2.2
  have hbad := getL_bad (f := f) (acc := acc) c
  have hgg := getL_go (f := f) (acc := acc) c
  rw [hg] at hbad hgg
  clear hto
  generalize oneQ (l, some a) = O at eO hin hgo hfst hbad hgg
  obtain ⟨x, l', s'⟩ := O
  simp only at hfst hin hgo hbad hgg eO
  subst hfst
  have er := s_IRight_at x
  have len6 : ((acc.length : Int) == 6000) = (acc.length == 6000) := by
    rw [Bool.eq_iff_iff]; simp; omega
  have eK : ∀ o t, s_Ok [.ptr 1 1 0 0] (o :: oP (toP l' s') :: t) = ⟨True, .bool s'.isSome, o :: oP (toP l' s') :: t⟩ := fun o t => by
    rw [s_Ok_at (r := toP l' s') rfl]; cases s' <;> rfl
  rcases s' with _ | a'
  · have e := hbad (by simp)
    subst e
    simp only [Option.isSome_none] at eK
    (have hcondQ := Bool.and_self; refine Todo.of ?_); (repeat' (first | ((with_reducible refine Todo.to ?_); (repeat (simp only [↓rP, rT, rU, dvalX, dval, dUn, dLoad, cellsAt, retV, retL, DR.val, fzT, fzVs, fzV, fz1, DV.immB, dStore, DV.one, alive, cellsOf, setFrom, Nat.reduceEqDiff, Nat.reduceAdd, ↓reduceIte, reduceCtorEq, Nat.reduceLeDiff, forall_const, eM, eO, eK ])))))
    all_goals rfl
  have h1 := hgo a' rfl
  have h2 : a' ≤ l'.length := hin.1
  simp only [Option.isSome_some] at eK
  cases r : rightI x
  · have e := hbad (by simp [r])
    subst e
    rw [r] at er
    (have hcondQ := Bool.and_self; refine Todo.of ?_); (repeat' (first | ((with_reducible refine Todo.to ?_); (repeat (simp only [↓rP, rT, rU, dvalX, dval, dUn, dLoad, cellsAt, retV, retL, DR.val, fzT, fzVs, fzV, fz1, DV.immB, dCallP, viewVs, viewV, view1, viewL, noMemV, noMem, dStore, DV.one, alive, cellsOf, setFrom, Nat.reduceEqDiff, Nat.reduceAdd, ↓reduceIte, reduceCtorEq, Nat.reduceLeDiff, forall_const, eM, eO, eK, er ])))))
    all_goals rfl
  cases k6 : (acc.length == 6000)
  rotate_left
  · have e := hbad (by simp [r, k6])
    subst e
    rw [r] at er
    rw [k6] at len6
    (have hcondQ := Bool.and_self; refine Todo.of ?_); (repeat' (first | ((with_reducible refine Todo.to ?_); (repeat (simp only [↓rP, rT, rU, dvalX, dval, dBin, dInt, dUn, dLoad, cellsAt, retV, retL, DR.val, fzT, fzVs, fzV, fz1, DV.immB, dCallP, viewVs, viewV, view1, viewL, noMemV, noMem, dStore, DV.one, alive, cellsOf, setFrom, Nat.reduceEqDiff, Nat.reduceAdd, ↓reduceIte, reduceCtorEq, Nat.reduceLeDiff, forall_const, eM, eO, eK, er, len6 ])))))
    all_goals rfl
  have e := hgg (by simp [r, k6])
  rw [r] at er
  rw [k6] at len6
  (have hcondQ := Bool.and_self; refine Todo.of ?_); (repeat' (first | ((with_reducible refine Todo.to ?_); (repeat (simp only [↓rP, rT, rU, dvalX, dval, dBin, dInt, dUn, dLoad, cellsAt, fz1, DV.immB, dCallP, viewVs, viewV, view1, viewL, noMemV, noMem, elemsOf, dAppend, dStore, DV.one, alive, fzLL, fzL, bRow, bU, cellsOf, setFrom, DV.isU, lenMax, Nat.reduceEqDiff, Nat.reduceAdd, ↓reduceIte, reduceCtorEq, Nat.reduceLeDiff, forall_const, eM, eO, eK, er, len6, in_snoc, hcondQ]))) | ((with_reducible refine And.intro ?_ ?_); · omega) | fail))
  all_goals first | omega | exact ⟨(f, a', acc ++ [x]), by simp only [cut_some, List.map_cons, List.map_nil, get_cons, Nk.get_nil, Nat.reduceEqDiff, ↓reduceIte, Nat.succ_ne_self, DV.cut, DV.inB, DObj.cut, List.take_zero, reduceCtorEq, decide_true, Nat.reduceLT, List.take_succ_cons, List.length_append, List.length_cons, List.length_nil, Nat.zero_add, oP, toP, Option.map_some] <;> rfl, ⟨h2, by simp only; omega, e.symm, by simp only [List.length_append, List.length_cons, List.length_nil]; omega⟩, by simp only; omega⟩
end Go.Proofs.YtfaailjhioobhaaGreat

/- What is put is got; what is got is put as it was. -/
set_option linter.all false
set_option maxRecDepth 20000
namespace Go.Proofs.YtfaailjhioobhaaGreat
open Go.Nk

/-- From a place on stand these bytes. -/
def AtB (l : List UInt8) (a : Nat) (c : List UInt8) : Prop := ∃ pre post, l = pre ++ (c ++ post) ∧ a = pre.length
theorem AtB.app {l : List UInt8} {a : Nat} {c d : List UInt8} (h : AtB l a (c ++ d)) : AtB l a c ∧ AtB l (a + c.length) d := by
  obtain ⟨pre, post, rfl, rfl⟩ := h
  exact ⟨⟨pre, d ++ post, by simp, rfl⟩, ⟨pre ++ c, post, by simp, by simp⟩⟩
theorem AtB.join {l : List UInt8} {a : Nat} {c d : List UInt8} (h : AtB l a c) (k : AtB l (a + c.length) d) : AtB l a (c ++ d) := by
  obtain ⟨pre, post, rfl, rfl⟩ := h
  obtain ⟨p2, q2, h1, h2⟩ := k
  rw [← List.append_assoc] at h1
  have h3 : pre ++ c = p2 ∧ post = d ++ q2 := List.append_inj h1 (by simp; omega)
  exact ⟨pre, q2, by rw [h3.2]; simp, rfl⟩
theorem AtB.drop {l : List UInt8} {a : Nat} {d : List UInt8} (h : AtB l a d) : l.drop a = d ++ l.drop (a + d.length) := by
  obtain ⟨pre, post, rfl, rfl⟩ := h
  rw [List.drop_left, ← List.append_assoc, ← List.length_append, List.drop_left]
theorem at_num {l : List UInt8} {a : Nat} {k z : Int} (h : AtB l a (putL k.toNat z.toNat)) (hz : z = 1 ∨ z = 2) (hk : 0 ≤ k ∧ k < 256 ^ z.toNat) : numV (some (l, a)) z = k ∧ nextS (some (l, a)) (szN z) = some (l, a + z.toNat) := by
  obtain ⟨pre, post, rfl, rfl⟩ := h
  refine num_back pre post (by omega) (by omega) (by omega) ?_
  have := hk.2
  push_cast
  omega
theorem at_int {l : List UInt8} {a : Nat} {x : Int} (h : AtB l a (intL x)) (hx : okI64 x) : intV (some (l, a)) = x ∧ intS (some (l, a)) = some (l, a + (intL x).length) := by
  obtain ⟨pre, post, rfl, rfl⟩ := h
  have := int_back pre post hx
  unfold intL
  rw [List.append_assoc]
  refine ⟨this.1, this.2.trans ?_⟩
  rw [List.length_append, putL_length, Nat.add_assoc]
theorem bytesI_kinds {x : In4} (h : rightI x = true) : (x.op = 1 ∧ bytesI x = putL 1 1 ++ (putL x.a.toNat 2 ++ intL x.n)) ∨ ((x.op = 2 ∨ x.op = 3 ∨ x.op = 6 ∨ x.op = 7) ∧ bytesI x = putL x.op.toNat 1 ++ putL x.a.toNat 2) ∨
    ((x.op = 4 ∨ x.op = 5) ∧ bytesI x = putL x.op.toNat 1 ++ putL x.a.toNat 1) ∨ ((x.op = 8 ∨ x.op = 9) ∧ bytesI x = putL x.op.toNat 1 ++ (putL x.a.toNat 2 ++ putL x.b.toNat 1)) ∨ (x.op = 10 ∧ bytesI x = putL x.op.toNat 1) := by
  have ho := right_op h
  obtain ⟨op, a, b, n⟩ := x
  simp only at ho ⊢
  unfold okOp at ho
  rcases ho with rfl | rfl | rfl | rfl | rfl | rfl | rfl | rfl | rfl | rfl <;> simp [bytesI, fmI]
theorem one_back {l : List UInt8} {a : Nat} {x : In4} (h : AtB l a (bytesI x)) (hr : rightI x = true) (hn : okI64 x.n) : oneI (some (l, a)) = (x, some (l, a + (bytesI x).length)) := by
  have rng := right_rng hr
  have hk := bytesI_kinds hr
  obtain ⟨op, aa, b, n⟩ := x
  simp only at hk rng hn
  rcases hk with ⟨rfl, e⟩ | ⟨ho, e⟩ | ⟨ho, e⟩ | ⟨ho, e⟩ | ⟨rfl, e⟩ <;> rw [e] at h ⊢
  · obtain ⟨h1, h2⟩ := h.app
    obtain ⟨h2, h3⟩ := h2.app
    have n1 := at_num (k := 1) (z := 1) h1 (.inl rfl) (by decide)
    rw [putL_length] at h2 h3
    have n2 := at_num (k := aa) (z := 2) h2 (.inr rfl) (by simpa using rng.2.1 rfl)
    rw [putL_length] at h3
    have n3 := at_int h3 hn
    have hb : b = 0 := by simp [rightI, fmI, firstI] at hr; omega
    simp only [Int.toNat_one, Int.reduceToNat] at n1 n2
    simp only [oneI, n1.1, n1.2, n2.1, n2.2, n3.1, n3.2, fmI, ↓reduceIte, Bool.false_eq_true, hb, List.length_append, putL_length, Nat.add_assoc]
  · obtain ⟨h1, h2⟩ := h.app
    have n1 := at_num (k := op) (z := 1) h1 (.inl rfl) (by simpa using rng.1)
    rw [putL_length] at h2
    have hw : (fmI op).w = true ∧ (fmI op).s = false ∧ (fmI op).b = false ∧ (fmI op).n = false := by rcases ho with rfl | rfl | rfl | rfl <;> decide
    have hz : b = 0 ∧ n = 0 := by rcases ho with rfl | rfl | rfl | rfl <;> (simp [rightI, fmI, firstI] at hr; omega)
    have n2 := at_num (k := aa) (z := 2) h2 (.inr rfl) (by simpa using rng.2.1 hw.1)
    simp only [Int.toNat_one, Int.reduceToNat] at n1 n2
    simp only [oneI, n1.1, n1.2, n2.1, n2.2, hw.1, hw.2.1, hw.2.2.1, hw.2.2.2, ↓reduceIte, Bool.false_eq_true, hz.1, hz.2, List.length_append, putL_length, Nat.add_assoc]
  · obtain ⟨h1, h2⟩ := h.app
    have n1 := at_num (k := op) (z := 1) h1 (.inl rfl) (by simpa using rng.1)
    rw [putL_length] at h2
    have hw : (fmI op).w = false ∧ (fmI op).s = true ∧ (fmI op).b = false ∧ (fmI op).n = false := by rcases ho with rfl | rfl <;> decide
    have hz : b = 0 ∧ n = 0 := by rcases ho with rfl | rfl <;> (simp [rightI, fmI, firstI] at hr; omega)
    have n2 := at_num (k := aa) (z := 1) h2 (.inl rfl) (by simpa using rng.2.2.1 hw.2.1)
    simp only [Int.toNat_one] at n1 n2
    simp only [oneI, n1.1, n1.2, n2.1, n2.2, hw.1, hw.2.1, hw.2.2.1, hw.2.2.2, ↓reduceIte, Bool.false_eq_true, hz.1, hz.2, List.length_append, putL_length, Nat.add_assoc]
  · obtain ⟨h1, h2⟩ := h.app
    obtain ⟨h2, h3⟩ := h2.app
    have n1 := at_num (k := op) (z := 1) h1 (.inl rfl) (by simpa using rng.1)
    rw [putL_length] at h2 h3
    have hw : (fmI op).w = true ∧ (fmI op).s = false ∧ (fmI op).b = true ∧ (fmI op).n = false := by rcases ho with rfl | rfl <;> decide
    have hz : n = 0 := by rcases ho with rfl | rfl <;> (simp [rightI, fmI, firstI] at hr; omega)
    have n2 := at_num (k := aa) (z := 2) h2 (.inr rfl) (by simpa using rng.2.1 hw.1)
    rw [putL_length] at h3
    have n3 := at_num (k := b) (z := 1) h3 (.inl rfl) (by simpa using rng.2.2.2 hw.2.2.1)
    simp only [Int.toNat_one, Int.reduceToNat] at n1 n2 n3
    simp only [oneI, n1.1, n1.2, n2.1, n2.2, n3.1, n3.2, hw.1, hw.2.1, hw.2.2.1, hw.2.2.2, ↓reduceIte, Bool.false_eq_true, hz, List.length_append, putL_length, Nat.add_assoc]
  · have n1 := at_num (k := 10) (z := 1) h (.inl rfl) (by decide)
    have hz : aa = 0 ∧ b = 0 ∧ n = 0 := by simp [rightI, fmI, firstI] at hr; omega
    simp only [Int.toNat_one] at n1
    simp only [oneI, n1.1, n1.2, fmI, ↓reduceIte, Int.reduceEq, Bool.false_eq_true, hz.1, hz.2.1, hz.2.2, putL_length]
/-! The other way. -/
theorem nxt_inv {l : List UInt8} {a a' : Nat} {k : Int} (h : (nxt l (some a) k).2 = some a') : 0 ≤ k ∧ a' = a + k.toNat ∧ a' ≤ l.length ∧ (nxt l (some a) k).1 = some ((l.take a').drop a) := by
  simp only [nxt] at h ⊢
  split at h
  · rename_i c
    injection h with h
    rw [if_pos c]
    exact ⟨c.1, h.symm, by omega, by rw [h]⟩
  · cases h
theorem at_part {l : List UInt8} {a a' : Nat} (h : a ≤ a') (h2 : a' ≤ l.length) : AtB l a ((l.take a').drop a) := by
  refine ⟨l.take a, l.drop a', ?_, by rw [List.length_take]; omega⟩
  have e1 : l.take a ++ (l.take a').drop a = l.take a' := by
    have := List.take_append_drop a (l.take a')
    rw [List.take_take, Nat.min_eq_left h] at this
    exact this
  rw [← List.append_assoc, e1, List.take_append_drop]
theorem num_inv {l : List UInt8} {a a' : Nat} {z : Int} (hz : z = 1 ∨ z = 2) (h : nextS (some (l, a)) (szN z) = some (l, a')) :
    a' = a + z.toNat ∧ a' ≤ l.length ∧ AtB l a (putL (numV (some (l, a)) z).toNat z.toNat) ∧ 0 ≤ numV (some (l, a)) z := by
  have hs : szN z = z := by rcases hz with rfl | rfl <;> decide
  rw [hs] at h
  have h2 : (nxt l (some a) z).2 = some a' := by
    unfold nextS toP at h
    cases q : (nxt l (some a) z).2 with
    | none => simp [q] at h
    | some b => simp [q] at h; rw [h]
  obtain ⟨h3, h4, h5, h6⟩ := nxt_inv h2
  have hc : ((l.take a').drop a).length = z.toNat := by rw [List.length_drop, List.length_take]; omega
  have h8 : z.toNat ≤ 8 := by rcases hz with rfl | rfl <;> decide
  have hlt := getF_lt ((l.take a').drop a) (by omega)
  rw [hc] at hlt
  have hv : numV (some (l, a)) z = (getF ((l.take a').drop a) : Int) := by
    unfold numV nextV
    rw [hs]
    simp only [h6, Option.getD_some]
    rw [wrap_i64_id]
    have : 256 ^ z.toNat ≤ 65536 := by rcases hz with rfl | rfl <;> decide
    omega
  refine ⟨h4, h5, ?_, by rw [hv]; omega⟩
  rw [hv, Int.toNat_natCast]
  have := putL_getF ((l.take a').drop a) (by omega)
  rw [hc] at this
  rw [this]
  exact at_part (by omega) h5
theorem int_inv {l : List UInt8} {a a' : Nat} (h : intS (some (l, a)) = some (l, a')) : a' = a + (intL (intV (some (l, a)))).length ∧ a' ≤ l.length ∧ AtB l a (intL (intV (some (l, a)))) ∧ okI64 (intV (some (l, a))) := by
  unfold intS at h
  cases hr : rawV (some (l, a)) 1 with
  | none => simp [hr] at h
  | some c =>
    simp only [hr] at h
    cases hb : bad c
    rotate_left
    · simp [hb] at h
    simp only [hb, Bool.false_eq_true, ↓reduceIte] at h
    have hv : intV (some (l, a)) = sgn c := by unfold intV; simp only [hr, hb, Bool.false_eq_true, ↓reduceIte]
    obtain ⟨e1, e2, e3⟩ := oct_back c hb
    rw [hv]
    unfold intL
    rw [e1]
    unfold rawS at h
    unfold rawV at hr
    cases h1 : nextS (some (l, a)) (szN 1) with
    | none => rw [h1] at h; cases h
    | some q =>
      have hq : q.1 = l := by
        unfold nextS toP at h1
        cases w : (nxt l (some a) (szN 1)).2 with
        | none => simp [w] at h1
        | some d => simp [w] at h1; rw [← h1]
      obtain ⟨ql, b⟩ := q
      simp only at hq
      subst hq
      obtain ⟨n1, n2, n3, n4⟩ := num_inv (.inl rfl) h1
      rw [h1] at h hr
      generalize numV (some (ql, a)) 1 = k at h hr n3 n4
      have h2 : (nxt ql (some b) k).2 = some a' := by
        unfold nextS toP at h
        cases w : (nxt ql (some b) k).2 with
        | none => simp [w] at h
        | some d => simp [w] at h; rw [h]
      obtain ⟨m1, m2, m3, m4⟩ := nxt_inv h2
      have hc : c = (ql.take a').drop b := by
        have : nextV (some (ql, b)) k = some c := hr
        unfold nextV at this
        simp only [m4, Option.some.injEq] at this
        exact this.symm
      have hlen : c.length = k.toNat := by rw [hc, List.length_drop, List.length_take]; omega
      have g : AtB ql b c := by rw [hc]; exact at_part (by omega) m3
      have h1n : (1 : Int).toNat = 1 := rfl
      rw [h1n] at n1 n3
      rw [hlen]
      refine ⟨by rw [List.length_append, putL_length, hlen]; omega, m3, n3.join ?_, e2, e3⟩
      rw [putL_length, ← n1]
      exact g
theorem nextS_fst {l : List UInt8} {a : Nat} {k : Int} {q : List UInt8 × Nat} (h : nextS (some (l, a)) k = some q) : ∃ b, q = (l, b) := by
  unfold nextS toP at h
  cases w : (nxt l (some a) k).2 with
  | none => simp [w] at h
  | some d => simp [w] at h; exact ⟨d, h.symm⟩
theorem one_inv {l : List UInt8} {a a' : Nat} {x : In4} (h : oneI (some (l, a)) = (x, some (l, a'))) (hr : rightI x = true) : a' = a + (bytesI x).length ∧ a' ≤ l.length ∧ AtB l a (bytesI x) ∧ ok64 x := by
  have rng := right_rng hr
  have hk := bytesI_kinds hr
  have h1n : (1 : Int).toNat = 1 := rfl
  have h2n : (2 : Int).toNat = 2 := rfl
  unfold oneI at h
  dsimp only at h
  rw [Prod.mk.injEq] at h
  obtain ⟨hx, hs⟩ := h
  have hop : x.op = numV (some (l, a)) 1 := by rw [← hx]
  rw [← hop] at hx hs
  generalize hr1 : nextS (some (l, a)) (szN 1) = r1 at hx hs
  have g1 : r1 = none ∨ ∃ b, r1 = some (l, b) := by
    cases r1 with
    | none => exact .inl rfl
    | some q => obtain ⟨b, rfl⟩ := nextS_fst hr1; exact .inr ⟨b, rfl⟩
  rcases hk with ⟨ho, e⟩ | ⟨ho, e⟩ | ⟨ho, e⟩ | ⟨ho, e⟩ | ⟨ho, e⟩ <;> rw [e]
  · have hw : (fmI x.op).w = true ∧ (fmI x.op).s = false ∧ (fmI x.op).b = false ∧ (fmI x.op).n = true := by rw [ho]; decide
    simp only [hw.1, hw.2.1, hw.2.2.1, hw.2.2.2, ↓reduceIte, Bool.false_eq_true] at hx hs
    rcases g1 with rfl | ⟨b, rfl⟩
    · cases hs
    obtain ⟨n1, n2, n3, n4⟩ := num_inv (.inl rfl) hr1
    generalize hr2 : nextS (some (l, b)) (szN 2) = r2 at hx hs
    cases r2 with
    | none => cases hs
    | some q =>
      obtain ⟨c, rfl⟩ := nextS_fst hr2
      obtain ⟨m1, m2, m3, m4⟩ := num_inv (.inr rfl) hr2
      obtain ⟨k1, k2, k3, k4⟩ := int_inv hs
      have ea : x.a = numV (some (l, b)) 2 := by rw [← hx]
      have en : x.n = intV (some (l, c)) := by rw [← hx]
      have eb : x.b = 0 := by rw [← hx]
      rw [← hop, ho] at n3
      rw [← ea] at m3
      rw [← en] at k1 k3 k4
      rw [h1n] at n1 n3
      rw [h2n] at m1 m3
      have ra := rng.2.1 hw.1
      refine ⟨by simp only [List.length_append, putL_length]; omega, k2, n3.join (by rw [putL_length, ← n1]; exact m3.join (by rw [putL_length, ← m1]; exact k3)), ⟨by unfold okI64; omega, by unfold okI64; omega, k4⟩⟩
  · have hw : (fmI x.op).w = true ∧ (fmI x.op).s = false ∧ (fmI x.op).b = false ∧ (fmI x.op).n = false := by rcases ho with ho | ho | ho | ho <;> rw [ho] <;> decide
    simp only [hw.1, hw.2.1, hw.2.2.1, hw.2.2.2, ↓reduceIte, Bool.false_eq_true] at hx hs
    rcases g1 with rfl | ⟨b, rfl⟩
    · cases hs
    obtain ⟨n1, n2, n3, n4⟩ := num_inv (.inl rfl) hr1
    obtain ⟨m1, m2, m3, m4⟩ := num_inv (.inr rfl) hs
    have ea : x.a = numV (some (l, b)) 2 := by rw [← hx]
    have en : x.n = 0 := by rw [← hx]
    have eb : x.b = 0 := by rw [← hx]
    rw [← hop] at n3
    rw [← ea] at m3
    rw [h1n] at n1 n3
    rw [h2n] at m1 m3
    have ra := rng.2.1 hw.1
    exact ⟨by simp only [List.length_append, putL_length]; omega, m2, n3.join (by rw [putL_length, ← n1]; exact m3), ⟨by unfold okI64; omega, by unfold okI64; omega, by unfold okI64; omega⟩⟩
  · have hw : (fmI x.op).w = false ∧ (fmI x.op).s = true ∧ (fmI x.op).b = false ∧ (fmI x.op).n = false := by rcases ho with ho | ho <;> rw [ho] <;> decide
    simp only [hw.1, hw.2.1, hw.2.2.1, hw.2.2.2, ↓reduceIte, Bool.false_eq_true] at hx hs
    rcases g1 with rfl | ⟨b, rfl⟩
    · cases hs
    obtain ⟨n1, n2, n3, n4⟩ := num_inv (.inl rfl) hr1
    obtain ⟨m1, m2, m3, m4⟩ := num_inv (.inl rfl) hs
    have ea : x.a = numV (some (l, b)) 1 := by rw [← hx]
    have en : x.n = 0 := by rw [← hx]
    have eb : x.b = 0 := by rw [← hx]
    rw [← hop] at n3
    rw [← ea] at m3
    rw [h1n] at n1 n3 m1 m3
    have ra := rng.2.2.1 hw.2.1
    exact ⟨by simp only [List.length_append, putL_length]; omega, m2, n3.join (by rw [putL_length, ← n1]; exact m3), ⟨by unfold okI64; omega, by unfold okI64; omega, by unfold okI64; omega⟩⟩
  · have hw : (fmI x.op).w = true ∧ (fmI x.op).s = false ∧ (fmI x.op).b = true ∧ (fmI x.op).n = false := by rcases ho with ho | ho <;> rw [ho] <;> decide
    simp only [hw.1, hw.2.1, hw.2.2.1, hw.2.2.2, ↓reduceIte, Bool.false_eq_true] at hx hs
    rcases g1 with rfl | ⟨b, rfl⟩
    · cases hs
    obtain ⟨n1, n2, n3, n4⟩ := num_inv (.inl rfl) hr1
    generalize hr2 : nextS (some (l, b)) (szN 2) = r2 at hx hs
    cases r2 with
    | none => cases hs
    | some q =>
      obtain ⟨c, rfl⟩ := nextS_fst hr2
      obtain ⟨m1, m2, m3, m4⟩ := num_inv (.inr rfl) hr2
      obtain ⟨k1, k2, k3, k4⟩ := num_inv (.inl rfl) hs
      have ea : x.a = numV (some (l, b)) 2 := by rw [← hx]
      have en : x.n = 0 := by rw [← hx]
      have eb : x.b = numV (some (l, c)) 1 := by rw [← hx]
      rw [← hop] at n3
      rw [← ea] at m3
      rw [← eb] at k3
      rw [h1n] at n1 n3 k1 k3
      rw [h2n] at m1 m3
      have ra := rng.2.1 hw.1
      have rb := rng.2.2.2 hw.2.2.1
      exact ⟨by simp only [List.length_append, putL_length]; omega, k2, n3.join (by rw [putL_length, ← n1]; exact m3.join (by rw [putL_length, ← m1]; exact k3)), ⟨by unfold okI64; omega, by unfold okI64; omega, by unfold okI64; omega⟩⟩
  · have hw : (fmI x.op).w = false ∧ (fmI x.op).s = false ∧ (fmI x.op).b = false ∧ (fmI x.op).n = false := by rw [ho]; decide
    simp only [hw.1, hw.2.1, hw.2.2.1, hw.2.2.2, ↓reduceIte, Bool.false_eq_true] at hx hs
    subst hs
    obtain ⟨n1, n2, n3, n4⟩ := num_inv (.inl rfl) hr1
    have ea : x.a = 0 := by rw [← hx]
    have en : x.n = 0 := by rw [← hx]
    have eb : x.b = 0 := by rw [← hx]
    rw [← hop] at n3
    rw [h1n] at n1 n3
    exact ⟨by simp only [putL_length]; omega, n2, n3, ⟨by unfold okI64; omega, by unfold okI64; omega, by unfold okI64; omega⟩⟩
/-! All of them. -/
theorem getL_back {c : List UInt8} : ∀ (l : List In4) (a f : Nat) (acc : List In4), AtB c a (l.flatMap bytesI) → a + (l.flatMap bytesI).length = c.length → l.length < f → (∀ x ∈ l, rightI x = true ∧ okI64 x.n) → acc.length + l.length ≤ 6000 →
    getL f c (some a) acc = some (acc ++ l)
  | [], a, f, acc, _, he, hf, _, _ => by
    obtain ⟨f, rfl⟩ : ∃ f', f = f' + 1 := ⟨f - 1, by simp at hf; omega⟩
    rw [getL_stop (by simp only [qMore]; simp at he ⊢; omega), List.append_nil]
  | x :: r, a, f, acc, h, he, hf, hx, h6 => by
    obtain ⟨f, rfl⟩ : ∃ f', f = f' + 1 := ⟨f - 1, by simp at hf; omega⟩
    rw [List.flatMap_cons] at h he
    obtain ⟨g1, g2⟩ := h.app
    obtain ⟨hr, hn⟩ := hx x List.mem_cons_self
    have hb := one_back g1 hr hn
    have hto := oneV_to c (some a)
    have hto1 : (oneQ (c, some a)).1 = x := by rw [← hto.1]; exact congrArg Prod.fst hb
    have hto2 : (oneQ (c, some a)).2.2 = some (a + (bytesI x).length) := by
      have h1 : toP c (oneQ (c, some a)).2.2 = some (c, a + (bytesI x).length) := by rw [← hto.2.1]; exact congrArg Prod.snd hb
      unfold toP at h1
      cases w : (oneQ (c, some a)).2.2 with
      | none => rw [w] at h1; cases h1
      | some d => rw [w] at h1; simp at h1; rw [h1]
    have hbl := bytesI_len x
    simp only [List.length_cons] at hf h6
    rw [List.length_append] at he
    rw [getL_go (by simp only [qMore]; simp; omega) (by rw [hto1, hto2, hr]; simp; omega), hto1, hto2,
      getL_back r _ f _ g2 (by omega) (by omega) (fun y hy => hx y (List.mem_cons_of_mem _ hy)) (by simp only [List.length_append, List.length_cons, List.length_nil]; omega)]
    simp
theorem put_get {l : List In4} {c : List UInt8} (h : putI l = some c) (hx : ∀ x ∈ l, ok64 x) : getI c = some l := by
  unfold putI at h
  split at h
  · rename_i hc
    injection h with h
    simp only [Bool.and_eq_true, List.all_eq_true, decide_eq_true_eq] at hc
    have hl := (flat_len l).2
    subst h
    unfold getI
    rw [getL_back l 0 _ [] ⟨[], [], by simp, rfl⟩ (by omega) (by omega) (fun x hy => ⟨hc.1 x hy, (hx x hy).n⟩) (by simpa using hc.2)]
    rfl
  · cases h
theorem getL_inv {c : List UInt8} : ∀ (f a : Nat) (acc m : List In4), a ≤ c.length → getL f c (some a) acc = some m → acc.length ≤ 6000 →
    ∃ l, m = acc ++ l ∧ c.drop a = l.flatMap bytesI ∧ (∀ x ∈ l, rightI x = true ∧ ok64 x) ∧ m.length ≤ 6000
  | 0, a, acc, m, _, h, _ => by cases h
  | f + 1, a, acc, m, ha, h, h6 => by
    cases q : qMore (c, some a)
    · rw [getL_stop q] at h
      injection h with h
      subst h
      simp only [qMore, decide_eq_false_iff_not] at q
      exact ⟨[], by simp, by rw [List.drop_of_length_le (by omega)]; rfl, by simp, h6⟩
    cases q2 : ((oneQ (c, some a)).2.2.isSome && rightI (oneQ (c, some a)).1 && !(acc.length == 6000))
    · rw [getL_bad q q2] at h; cases h
    rw [getL_go q q2] at h
    simp only [Bool.and_eq_true, Bool.not_eq_true', beq_eq_false_iff_ne] at q2
    obtain ⟨⟨q3, q4⟩, q5⟩ := q2
    have hto := oneV_to c (some a)
    cases w : (oneQ (c, some a)).2.2 with
    | none => rw [w] at q3; cases q3
    | some a' =>
      rw [w] at h hto
      have hv : oneI (some (c, a)) = ((oneQ (c, some a)).1, some (c, a')) := Prod.ext hto.1 hto.2.1
      obtain ⟨k1, k2, k3, k4⟩ := one_inv hv q4
      obtain ⟨l, e1, e2, e3, e4⟩ := getL_inv f a' _ m k2 h (by simp only [List.length_append, List.length_cons, List.length_nil]; omega)
      refine ⟨(oneQ (c, some a)).1 :: l, by rw [e1]; simp, ?_, fun x hx => ?_, e4⟩
      · rw [List.flatMap_cons, ← e2, k1]
        exact k3.drop
      · rcases List.mem_cons.1 hx with rfl | hx
        · exact ⟨q4, k4⟩
        · exact e3 x hx
theorem get_put {c : List UInt8} {m : List In4} (h : getI c = some m) : putI m = some c ∧ (∀ x ∈ m, ok64 x) ∧ m.length ≤ 6000 := by
  obtain ⟨l, e1, e2, e3, e4⟩ := getL_inv _ 0 [] m (Nat.zero_le _) h (by decide)
  simp only [List.nil_append] at e1
  subst e1
  rw [List.drop_zero] at e2
  refine ⟨?_, fun x hx => (e3 x hx).2, e4⟩
  unfold putI
  rw [if_pos (by simp only [Bool.and_eq_true, List.all_eq_true, decide_eq_true_eq]; exact ⟨fun x hx => (e3 x hx).1, e4⟩), e2]
end Go.Proofs.YtfaailjhioobhaaGreat

