/- The machine of the program: an instruction. -/
import Derived.Test.YtjgefhgkinocmaaVm3
set_option linter.all false
set_option maxRecDepth 20000
namespace Go.Proofs.Ytjgefhgkinocmaa
open Go.Nk

section
variable {hp t : List DObj} {n m : Nat} {v : MS}
theorem s_get_run (k : Three hp n m) (x : Ins) : s_get [.ptr n 1 0 0, .agg (cIns x)] (TM.put hp n m v ++ t) = ⟨okM v ∧ 0 ≤ x.a ∧ x.a ≤ 65535 ∧ 1 ≤ x.b ∧ x.b ≤ 8, .int .i64 (getR v x).1, TM.put hp n m (getR v x).2 ++ t⟩ := specT_run TM_ok injL_ins _ k x
theorem s_putI_run (k : Three hp n m) (x : Ins) : s_putI [.ptr n 1 0 0, .agg (cIns x)] (TM.put hp n m v ++ t) = ⟨okM v ∧ 0 ≤ x.a ∧ x.a ≤ 65535 ∧ 1 ≤ x.b ∧ x.b ≤ 8, .int .i64 (putR v x).1, TM.put hp n m (putR v x).2 ++ t⟩ := specT_run TM_ok injL_ins _ k x
theorem s_move_run (k : Three hp n m) (x : Ins) : s_move [.ptr n 1 0 0, .agg (cIns x)] (TM.put hp n m v ++ t) = ⟨okM v ∧ 0 ≤ x.a ∧ x.a ≤ 65535, .int .i64 (moveR v x).1, TM.put hp n m (moveR v x).2 ++ t⟩ := specT_run TM_ok injL_ins _ k x
theorem s_operate_run (k : Three hp n m) (x : Ins) : s_operate [.ptr n 1 0 0, .agg (cIns x)] (TM.put hp n m v ++ t) = ⟨okM v, .int .i64 (operR v x).1, TM.put hp n m (operR v x).2 ++ t⟩ := specT_run TM_ok injL_ins _ k x
end

def doR (v : MS) (x : Ins) : Int × MS :=
  if rightF x = false then (13, v) else
  let u : MS := { v with pc := v.pc + 1 }
  if x.o = 1 then (pushE u, pushS u x.n) else if x.o = 2 ∨ x.o = 3 then moveR u x else if x.o = 4 ∨ x.o = 5 then operR u x else if x.o = 6 then (0, { u with pc := x.a }) else
  if x.o = 7 then (if u.hi < 1 then (13, u) else if popV u = 0 then (0, { popS u with pc := x.a }) else (0, popS u)) else
  if x.o = 8 then getR u x else if x.o = 9 then putR u x else (0, u)
noncomputable def s_do := specT TM (fun x : Ins => [.agg (cIns x)]) fun v x => (okM v ∧ v.pc < 1000000000, .int .i64 (doR v x).1, (doR v x).2)
theorem s_do_run {hp t : List DObj} {n m : Nat} {v : MS} (k : Three hp n m) (x : Ins) : s_do [.ptr n 1 0 0, .agg (cIns x)] (TM.put hp n m v ++ t) = ⟨okM v ∧ v.pc < 1000000000, .int .i64 (doR v x).1, TM.put hp n m (doR v x).2 ++ t⟩ := specT_run TM_ok injL_ins _ k x
theorem right_a {x : Ins} (h : rightF x = true) : 0 ≤ x.a ∧ x.a ≤ 65535 := by
  obtain ⟨o, a, b, n⟩ := x
  simp only [rightF, firstF, withinF, Bool.and_eq_true, Bool.or_eq_true, decide_eq_true_eq, beq_iff_eq] at h ⊢
  obtain ⟨⟨⟨⟨h1, h2⟩, h3⟩, h4⟩, h5⟩ := h
  repeat' split at h3
  all_goals simp at h3
  all_goals omega
theorem right_b {x : Ins} (h : rightF x = true) (ho : x.o = 8 ∨ x.o = 9) : 1 ≤ x.b ∧ x.b ≤ 8 := by
  obtain ⟨o, a, b, n⟩ := x
  simp only [rightF, firstF, withinF, Bool.and_eq_true] at h ho ⊢
  have h5 := h.2
  rw [if_pos ho] at h5
  simpa using h5
theorem ok_do : OkH Try.prog 35 s_do := by
  refine OkH.mkT (ps := [(38, s_right)]) (hs := [(42, s_has), (43, s_pop), (39, s_push), (44, s_get), (45, s_putI), (40, s_move), (41, s_operate)]) TM_ok ⟨ok_instr_right, trivial⟩ ⟨ok_has, ok_pop, ok_push, ok_get, ok_putI, ok_move, ok_operate, trivial⟩ m_vm_machine_do (fun _ => rfl) (fun _ _ _ => rfl) fun n m hp v x k h => ?_
  obtain ⟨h, hpc⟩ := h
  have r := h.r
  have p0 := h.p0
  have e := s_right_at x
  by_cases hr : rightF x = true
  rotate_left
  · have hr' : rightF x = false := by simpa using hr
    (have hcondQ := Bool.and_self; refine Todo.of ?_; repeat' (first | ((with_reducible refine Todo.to ?_); try simp only [↓rP, rT, rU, eI, eU, eB, eS, eBs, eL, eA, buildCells, sepsD, sepB, hdl, dvalX, DOp.kind, dval, frameFrom, dBin, dInt, dStr, dBeq, dUn, dLoad, cellsAt, retV, retL, DR.val, fzT, fzVs, fzV, fz1, DV.immB, IntKind.bits, dCallP, viewVs, viewV, view1, capVL, capV, viewL, noMemV, noMem, elemsOf, dAppend, dAppz, dStore, DV.one, alive, freezeAt, fzLL, fzL, bRow, bU, cellsOf, setFrom, DV.isU, lenMax, lenCap, Nat.reduceEqDiff, Nat.reduceAdd, ↓reduceIte, reduceCtorEq, Nat.reduceSub, Int.reduceToNat, Int.reducePow, Nat.reducePow, Int.reduceLE, Int.reduceLT, Nat.reduceLeDiff, Nat.reduceLT, Int.reduceBEq, Int.reduceBNe, Int.reduceEq, Int.reduceNe, Int.reduceAdd, Int.reduceSub, Int.reduceMul, Int.reduceNeg, Int.reduceTDiv, Int.reduceTMod, Int.reduceMod, Int.reduceDiv, Nat.reduceMul, forall_const, implies_true, d_vm_machine_do, k, TM_b, List.append_assoc, Nat.add_zero, Duo.put_len, Duo.put_lenA, endT_normal, endT_ret, dSlice, dBound, List.length_drop, Nat.mul_one, e, hr', hcondQ]) | ((with_reducible refine And.intro ?_ ?_); · first | trivial | omega | (simp; done) | (simp; omega)) | ((first | ((with_reducible refine dwp_condI (t := ?_) ?_ (fun hcQ => ?_) (fun hcQ => ?_)); rotate_left; · rfl) | ((with_reducible refine dops_guardI (t := ?_) ?_ (fun hcQ => ?_) (fun hcQ => ?_)); rotate_left; · rfl)) <;> (have hn := hcQ; have hcondQ := hcQ) <;> (try simp only [decide_eq_true_eq, decide_eq_false_iff_not, beq_iff_eq, bne_iff_ne, ne_eq, Bool.and_eq_true, Bool.or_eq_true, Bool.not_eq_true, Bool.not_eq_false, beq_eq_false_iff_ne, bne_eq_false_iff_eq, Bool.not_eq_true', Bool.not_eq_false', Int.ofNat_lt, Int.ofNat_le, Bool.or_eq_false_iff, Bool.and_eq_false_imp, Decidable.not_not, gt_iff_lt, ge_iff_le] at hn) <;> (try (exfalso; omega)) <;> (refine Todo.of ?_)) | (((with_reducible refine dwp_condA ?_ ?_ ?_); · rfl) <;> (refine Todo.of ?_))))
    (all_goals (first | exact ⟨_, _, rfl, rfl⟩ | (refine ⟨?_, _, _, rfl, ?_⟩ <;> grind [doR]) | (refine ⟨_, _, rfl, ?_⟩; grind [doR]) | skip))
  have hu : okM { v with pc := v.pc + 1 } := ⟨h.r, h.h0, h.h1, by simp only; omega, by simp only; omega, h.u0, h.u1, h.c, h.ri, h.ci⟩
  have w : IntKind.i64.wrap (v.pc + 1) = v.pc + 1 := wrap_i64_id (by omega)
  have ra := right_a hr
  have rp : (popS { v with pc := v.pc + 1 }).raw.length = 16 := h.r
  have rb := fun h => right_b hr h
  (have hcondQ := Bool.and_self; refine Todo.of ?_; repeat' (first | ((with_reducible refine Todo.to ?_); try simp only [↓rP, rT, rU, eI, eU, eB, eS, eBs, eL, eA, buildCells, sepsD, sepB, hdl, dvalX, DOp.kind, dval, frameFrom, dBin, dInt, dStr, dBeq, dUn, dLoad, cellsAt, retV, retL, DR.val, fzT, fzVs, fzV, fz1, DV.immB, IntKind.bits, dCallP, viewVs, viewV, view1, capVL, capV, viewL, noMemV, noMem, elemsOf, dAppend, dAppz, dStore, DV.one, alive, freezeAt, fzLL, fzL, bRow, bU, cellsOf, setFrom, DV.isU, lenMax, lenCap, Nat.reduceEqDiff, Nat.reduceAdd, ↓reduceIte, reduceCtorEq, Nat.reduceSub, Int.reduceToNat, Int.reducePow, Nat.reducePow, Int.reduceLE, Int.reduceLT, Nat.reduceLeDiff, Nat.reduceLT, Int.reduceBEq, Int.reduceBNe, Int.reduceEq, Int.reduceNe, Int.reduceAdd, Int.reduceSub, Int.reduceMul, Int.reduceNeg, Int.reduceTDiv, Int.reduceTMod, Int.reduceMod, Int.reduceDiv, Nat.reduceMul, forall_const, implies_true, d_vm_machine_do, k, TM_o, TM_b, TM_so, mRow_18, mRow_s18, mRow_len, r, rp, List.append_assoc, Nat.add_zero, Duo.put_len, Duo.put_lenA, endT_normal, endT_ret, dSlice, dBound, List.length_drop, Nat.mul_one, e, hr, w, s_has_run, s_pop_run, s_push_run, s_get_run, s_putI_run, s_move_run, s_operate_run, hu, ra , hcondQ]) | ((with_reducible refine And.intro ?_ ?_); · first | trivial | exact ⟨hu, ra⟩ | exact ⟨hu, ra.1, ra.2, rb (by omega)⟩ | omega | (simp; done) | (simp; omega)) | ((first | ((with_reducible refine dwp_condI (t := ?_) ?_ (fun hcQ => ?_) (fun hcQ => ?_)); rotate_left; · rfl) | ((with_reducible refine dops_guardI (t := ?_) ?_ (fun hcQ => ?_) (fun hcQ => ?_)); rotate_left; · rfl)) <;> (have hn := hcQ; have hcondQ := hcQ) <;> (try simp only [decide_eq_true_eq, decide_eq_false_iff_not, beq_iff_eq, bne_iff_ne, ne_eq, Bool.and_eq_true, Bool.or_eq_true, Bool.not_eq_true, Bool.not_eq_false, beq_eq_false_iff_ne, bne_eq_false_iff_eq, Bool.not_eq_true', Bool.not_eq_false', Int.ofNat_lt, Int.ofNat_le, Bool.or_eq_false_iff, Bool.and_eq_false_imp, Decidable.not_not, gt_iff_lt, ge_iff_le] at hn) <;> (try (exfalso; omega)) <;> (refine Todo.of ?_)) | (((with_reducible refine dwp_condA ?_ ?_ ?_); · rfl) <;> (refine Todo.of ?_))))
  (all_goals (first | exact ⟨_, _, rfl, rfl⟩ | (refine ⟨?_, _, _, rfl, ?_⟩ <;> grind [doR]) | (refine ⟨_, _, rfl, ?_⟩; grind [doR]) | skip))
end Go.Proofs.Ytjgefhgkinocmaa
