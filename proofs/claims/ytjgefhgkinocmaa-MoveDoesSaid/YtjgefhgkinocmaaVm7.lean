/- The run of the reference: its steps. -/
import Derived.Test.YtjgefhgkinocmaaVm6
set_option linter.all false
set_option maxRecDepth 20000
namespace Go.Proofs.Ytjgefhgkinocmaa
open Go.Nk

structure RS where
  M : List Int
  S : List Int
  pc : Int
  e : Int
abbrev oRS (m : Nat) (v : RS) : DObj := ⟨.loc, 4, [[.own m v.M.length 0 v.M.length, .sl (il v.S), .int .i64 v.pc, .int .i64 v.e]]⟩
def TR : Duo RS := ⟨oRS, fun v => ⟨.imm, 1, il v.M⟩⟩
theorem TR_ok : TR.ok where
  inj1 m v m' v' h := by simp [TR, oRS] at h; exact h.1.1
  inj2 m v v' h h2 := by
    simp only [TR, oRS, DObj.mk.injEq, List.cons.injEq, true_and, and_true, DV.sl.injEq, DV.int.injEq] at h h2
    have h3 := il_inj h2
    have h4 := il_inj h.2.1
    cases v; cases v'; simp_all
  cut1 m v k h := by simp [TR, oRS, DObj.cut, DV.cut, DV.inB, h]
  cut2 v k := by simp [TR, DObj.cut]
section
variable {hp t : List DObj} {n m : Nat} {v : RS}
theorem TR_o (k : Three hp n m) : (TR.put hp n m v ++ t)[n]? = some ⟨.loc, 4, [[.own m v.M.length 0 v.M.length, .sl (il v.S), .int .i64 v.pc, .int .i64 v.e]]⟩ := Duo.get_o k
theorem TR_c (k : Three hp n m) : (TR.put hp n m v ++ t)[m]? = some ⟨.imm, 1, il v.M⟩ := Duo.get_c k
theorem TR_b {o : DObj} : (TR.put hp n m v ++ (o :: t))[hp.length]? = some o := Duo.get_b
theorem TR_so {S : List Int} {p e : Int} (k : Three hp n m) : (TR.put hp n m v ++ t).set n ⟨.loc, 4, [[.own m v.M.length 0 v.M.length, .sl (il S), .int .i64 p, .int .i64 e]]⟩ = TR.put hp n m ⟨v.M, S, p, e⟩ ++ t := Duo.set_o (T := TR) (v' := ⟨v.M, S, p, e⟩) k rfl
theorem TR_sc {c : List Int} (k : Three hp n m) (h : c.length = v.M.length) : (TR.put hp n m v ++ t).set m ⟨.imm, 1, il c⟩ = TR.put hp n m { v with M := c } ++ t := by
  have := Duo.set_c (T := TR) (v := v) (v' := { v with M := c }) (t := t) k (by simp [TR, oRS, h])
  exact this
end
theorem il_snoc (l : List Int) (x : Int) : il l ++ [[.int .i64 x]] = il (l ++ [x]) := by simp [il]
theorem il_take (l : List Int) (k : Nat) : (il l).take k = il (l.take k) := by simp [il, List.map_take]
structure okR (v : RS) : Prop where
  s : v.S.length ≤ 16
  p0 : 0 ≤ v.pc
  p1 : v.pc ≤ 1000000000
  c : v.M.length ≤ 1000000
  si : ∀ x ∈ v.S, in64 x
  ci : ∀ x ∈ v.M, in64 x

def qpopV (v : RS) : Int := v.S.getD (v.S.length - 1) 0
def qpopB (v : RS) : Bool := !(v.S.length == 0)
def qpopS (v : RS) : RS := if v.S.length = 0 then { v with e := 13 } else { v with S := v.S.take (v.S.length - 1) }
noncomputable def s_qpop := specT TR (fun _ : Unit => []) fun v _ => (okR v, .tup [.int .i64 (qpopV v), .bool (qpopB v)], qpopS v)
theorem s_qpop_run {hp t : List DObj} {n m : Nat} {v : RS} (k : Three hp n m) : s_qpop [.ptr n 1 0 0] (TR.put hp n m v ++ t) = ⟨okR v, .tup [.int .i64 (qpopV v), .bool (qpopB v)], TR.put hp n m (qpopS v) ++ t⟩ := specT_run TR_ok (injL_unit _) _ k ()
theorem ok_qpop : OkH Try.prog 28 s_qpop := by
  refine OkH.mkT (ps := []) (hs := []) TR_ok trivial trivial m_noriaref30_R_pop (fun _ => rfl) (fun _ _ _ => rfl) fun n m hp v a k h => ?_
  have hs := h.s
  have rows := il_rows v.S
  by_cases c : v.S.length = 0
  · have c' : v.S = [] := List.length_eq_zero_iff.1 c
    (have hcondQ := Bool.and_self; refine Todo.of ?_; repeat' (first | ((with_reducible refine Todo.to ?_); try simp only [↓rP, rT, rU, eI, eU, eB, eS, eBs, eL, eA, buildCells, sepsD, sepB, hdl, dvalX, DOp.kind, dval, frameFrom, dBin, dInt, dStr, dBeq, dUn, dLoad, cellsAt, retV, retL, DR.val, fzT, fzVs, fzV, fz1, DV.immB, IntKind.bits, dCallP, viewVs, viewV, view1, capVL, capV, viewL, noMemV, noMem, elemsOf, dAppend, dAppz, dStore, DV.one, alive, freezeAt, fzLL, fzL, bRow, bU, cellsOf, setFrom, DV.isU, lenMax, lenCap, Nat.reduceEqDiff, Nat.reduceAdd, ↓reduceIte, reduceCtorEq, Nat.reduceSub, Int.reduceToNat, Int.reducePow, Nat.reducePow, Int.reduceLE, Int.reduceLT, Nat.reduceLeDiff, Nat.reduceLT, Int.reduceBEq, Int.reduceBNe, Int.reduceEq, Int.reduceNe, Int.reduceAdd, Int.reduceSub, Int.reduceMul, Int.reduceNeg, Int.reduceTDiv, Int.reduceTMod, Int.reduceMod, Int.reduceDiv, Nat.reduceMul, forall_const, implies_true, d_noriaref30_R_pop, k, TR_o, TR_so, List.append_assoc, Nat.add_zero, Duo.put_len, Duo.put_lenA, endT_normal, endT_ret, dSlice, dBound, List.length_drop, Nat.mul_one, il_len, c, hcondQ]) | ((with_reducible refine And.intro ?_ ?_); · first | trivial | omega | (simp; done) | (simp; omega)) | ((first | ((with_reducible refine dwp_condI (t := ?_) ?_ (fun hcQ => ?_) (fun hcQ => ?_)); rotate_left; · rfl) | ((with_reducible refine dops_guardI (t := ?_) ?_ (fun hcQ => ?_) (fun hcQ => ?_)); rotate_left; · rfl)) <;> (have hn := hcQ; have hcondQ := hcQ) <;> (try simp only [decide_eq_true_eq, decide_eq_false_iff_not, beq_iff_eq, bne_iff_ne, ne_eq, Bool.and_eq_true, Bool.or_eq_true, Bool.not_eq_true, Bool.not_eq_false, beq_eq_false_iff_ne, bne_eq_false_iff_eq, Bool.not_eq_true', Bool.not_eq_false', Int.ofNat_lt, Int.ofNat_le, Bool.or_eq_false_iff, Bool.and_eq_false_imp, Decidable.not_not, gt_iff_lt, ge_iff_le] at hn) <;> (try (exfalso; omega)) <;> (refine Todo.of ?_)) | (((with_reducible refine dwp_condA ?_ ?_ ?_); · rfl) <;> (refine Todo.of ?_))))
    (all_goals (first | exact ⟨_, _, rfl, rfl⟩ | (refine ⟨?_, _, _, rfl, ?_⟩ <;> grind [qpopV, qpopB, qpopS]) | (refine ⟨_, _, rfl, ?_⟩; grind [qpopV, qpopB, qpopS]) | skip))
  · have w : IntKind.i64.wrap ((v.S.length : Int) - 1) = ((v.S.length - 1 : Nat) : Int) := by rw [wrap_i64_id (by omega)]; omega
    have e1 := il_getD (l := v.S) (k := v.S.length - 1) (by omega)
    (have hcondQ := Bool.and_self; refine Todo.of ?_; repeat' (first | ((with_reducible refine Todo.to ?_); try simp only [↓rP, rT, rU, eI, eU, eB, eS, eBs, eL, eA, buildCells, sepsD, sepB, hdl, dvalX, DOp.kind, dval, frameFrom, dBin, dInt, dStr, dBeq, dUn, dLoad, cellsAt, retV, retL, DR.val, fzT, fzVs, fzV, fz1, DV.immB, IntKind.bits, dCallP, viewVs, viewV, view1, capVL, capV, viewL, noMemV, noMem, elemsOf, dAppend, dAppz, dStore, DV.one, alive, freezeAt, fzLL, fzL, bRow, bU, cellsOf, setFrom, DV.isU, lenMax, lenCap, Nat.reduceEqDiff, Nat.reduceAdd, ↓reduceIte, reduceCtorEq, Nat.reduceSub, Int.reduceToNat, Int.reducePow, Nat.reducePow, Int.reduceLE, Int.reduceLT, Nat.reduceLeDiff, Nat.reduceLT, Int.reduceBEq, Int.reduceBNe, Int.reduceEq, Int.reduceNe, Int.reduceAdd, Int.reduceSub, Int.reduceMul, Int.reduceNeg, Int.reduceTDiv, Int.reduceTMod, Int.reduceMod, Int.reduceDiv, Nat.reduceMul, forall_const, implies_true, d_noriaref30_R_pop, k, TR_o, TR_so, List.append_assoc, Nat.add_zero, Duo.put_len, Duo.put_lenA, endT_normal, endT_ret, dSlice, dBound, List.length_drop, Nat.mul_one, il_len, c, w, e1, il_take, rows, hcondQ]) | ((with_reducible refine And.intro ?_ ?_); · first | trivial | omega | (simp; done) | (simp; omega)) | ((first | ((with_reducible refine dwp_condI (t := ?_) ?_ (fun hcQ => ?_) (fun hcQ => ?_)); rotate_left; · rfl) | ((with_reducible refine dops_guardI (t := ?_) ?_ (fun hcQ => ?_) (fun hcQ => ?_)); rotate_left; · rfl)) <;> (have hn := hcQ; have hcondQ := hcQ) <;> (try simp only [decide_eq_true_eq, decide_eq_false_iff_not, beq_iff_eq, bne_iff_ne, ne_eq, Bool.and_eq_true, Bool.or_eq_true, Bool.not_eq_true, Bool.not_eq_false, beq_eq_false_iff_ne, bne_eq_false_iff_eq, Bool.not_eq_true', Bool.not_eq_false', Int.ofNat_lt, Int.ofNat_le, Bool.or_eq_false_iff, Bool.and_eq_false_imp, Decidable.not_not, gt_iff_lt, ge_iff_le] at hn) <;> (try (exfalso; omega)) <;> (refine Todo.of ?_)) | (((with_reducible refine dwp_condA ?_ ?_ ?_); · rfl) <;> (refine Todo.of ?_))))
    (all_goals (first | exact ⟨_, _, rfl, rfl⟩ | (refine ⟨?_, _, _, rfl, ?_⟩ <;> grind [qpopV, qpopB, qpopS]) | (refine ⟨_, _, rfl, ?_⟩; grind [qpopV, qpopB, qpopS]) | skip))

def qpushS (v : RS) (x : Int) : RS := if 16 ≤ v.S.length then { v with e := 13 } else { v with S := v.S ++ [x] }
noncomputable def s_qpush := specT TR (fun n : Int => [.int .i64 n]) fun v x => (okR v, .tup [], qpushS v x)
theorem s_qpush_run {hp t : List DObj} {n m : Nat} {v : RS} (k : Three hp n m) (a : Int) : s_qpush [.ptr n 1 0 0, .int .i64 a] (TR.put hp n m v ++ t) = ⟨okR v, .tup [], TR.put hp n m (qpushS v a) ++ t⟩ := specT_run TR_ok injL_int _ k a
theorem ok_qpush : OkH Try.prog 26 s_qpush := by
  refine OkH.mkT (ps := []) (hs := []) TR_ok trivial trivial m_noriaref30_R_push (fun _ => rfl) (fun _ _ _ => rfl) fun n m hp v a k h => ?_
  have hs := h.s
  have rows := il_rows v.S
  have hl : v.S.length ≤ lenMax := by unfold lenMax; omega
  have hl2 : v.S.length + 1 ≤ lenMax := by unfold lenMax; omega
  (have hcondQ := Bool.and_self; refine Todo.of ?_; repeat' (first | ((with_reducible refine Todo.to ?_); try simp only [↓rP, rT, rU, eI, eU, eB, eS, eBs, eL, eA, buildCells, sepsD, sepB, hdl, dvalX, DOp.kind, dval, frameFrom, dBin, dInt, dStr, dBeq, dUn, dLoad, cellsAt, retV, retL, DR.val, fzT, fzVs, fzV, fz1, DV.immB, IntKind.bits, dCallP, viewVs, viewV, view1, capVL, capV, viewL, noMemV, noMem, elemsOf, dAppend, dAppz, dStore, DV.one, alive, freezeAt, fzLL, fzL, bRow, bU, cellsOf, setFrom, DV.isU, lenMax, lenCap, Nat.reduceEqDiff, Nat.reduceAdd, ↓reduceIte, reduceCtorEq, Nat.reduceSub, Int.reduceToNat, Int.reducePow, Nat.reducePow, Int.reduceLE, Int.reduceLT, Nat.reduceLeDiff, Nat.reduceLT, Int.reduceBEq, Int.reduceBNe, Int.reduceEq, Int.reduceNe, Int.reduceAdd, Int.reduceSub, Int.reduceMul, Int.reduceNeg, Int.reduceTDiv, Int.reduceTMod, Int.reduceMod, Int.reduceDiv, Nat.reduceMul, forall_const, implies_true, d_noriaref30_R_push, k, TR_o, TR_so, List.append_assoc, Nat.add_zero, Duo.put_len, Duo.put_lenA, endT_normal, endT_ret, dSlice, dBound, List.length_drop, Nat.mul_one, il_len, il_snoc, il_take, rows, Duo.get_b, Duo.set_b, hl, hl2, fzV, fz1, hcondQ]) | ((with_reducible refine And.intro ?_ ?_); · first | trivial | omega | (simp; done) | (simp; omega)) | ((first | ((with_reducible refine dwp_condI (t := ?_) ?_ (fun hcQ => ?_) (fun hcQ => ?_)); rotate_left; · rfl) | ((with_reducible refine dops_guardI (t := ?_) ?_ (fun hcQ => ?_) (fun hcQ => ?_)); rotate_left; · rfl)) <;> (have hn := hcQ; have hcondQ := hcQ) <;> (try simp only [decide_eq_true_eq, decide_eq_false_iff_not, beq_iff_eq, bne_iff_ne, ne_eq, Bool.and_eq_true, Bool.or_eq_true, Bool.not_eq_true, Bool.not_eq_false, beq_eq_false_iff_ne, bne_eq_false_iff_eq, Bool.not_eq_true', Bool.not_eq_false', Int.ofNat_lt, Int.ofNat_le, Bool.or_eq_false_iff, Bool.and_eq_false_imp, Decidable.not_not, gt_iff_lt, ge_iff_le] at hn) <;> (try (exfalso; omega)) <;> (refine Todo.of ?_)) | (((with_reducible refine dwp_condA ?_ ?_ ?_); · rfl) <;> (refine Todo.of ?_))))
  (all_goals (first | exact ⟨_, _, rfl, rfl⟩ | (refine ⟨?_, _, _, rfl, ?_⟩ <;> grind [qpushS]) | (refine ⟨_, _, rfl, ?_⟩; grind [qpushS]) | skip))

def qthereB (v : RS) (a b : Int) : Bool := !(decide ((v.M.length : Int) < a + b))
def qthereS (v : RS) (a b : Int) : RS := if (v.M.length : Int) < a + b then { v with e := 13 } else v
noncomputable def s_qthere := specT TR (fun x : Int × Int => [.int .i64 x.1, .int .i64 x.2]) fun v x => (okR v ∧ 0 ≤ x.1 ∧ x.1 ≤ 65535 ∧ 0 ≤ x.2 ∧ x.2 ≤ 8, .bool (qthereB v x.1 x.2), qthereS v x.1 x.2)
theorem s_qthere_run {hp t : List DObj} {n m : Nat} {v : RS} (k : Three hp n m) (a b : Int) : s_qthere [.ptr n 1 0 0, .int .i64 a, .int .i64 b] (TR.put hp n m v ++ t) = ⟨okR v ∧ 0 ≤ a ∧ a ≤ 65535 ∧ 0 ≤ b ∧ b ≤ 8, .bool (qthereB v a b), TR.put hp n m (qthereS v a b) ++ t⟩ := specT_run TR_ok injL_ii _ k (a, b)
theorem ok_qthere : OkH Try.prog 27 s_qthere := by
  refine OkH.mkT (ps := []) (hs := []) TR_ok trivial trivial m_noriaref30_R_there (fun _ => rfl) (fun _ _ _ => rfl) fun n m hp v a k h => ?_
  obtain ⟨a, b⟩ := a
  obtain ⟨h, a0, a1, b0, b1⟩ := h
  simp only at a0 a1 b0 b1
  have w : IntKind.i64.wrap (a + b) = a + b := wrap_i64_id (by omega)
  (have hcondQ := Bool.and_self; refine Todo.of ?_; repeat' (first | ((with_reducible refine Todo.to ?_); try simp only [↓rP, rT, rU, eI, eU, eB, eS, eBs, eL, eA, buildCells, sepsD, sepB, hdl, dvalX, DOp.kind, dval, frameFrom, dBin, dInt, dStr, dBeq, dUn, dLoad, cellsAt, retV, retL, DR.val, fzT, fzVs, fzV, fz1, DV.immB, IntKind.bits, dCallP, viewVs, viewV, view1, capVL, capV, viewL, noMemV, noMem, elemsOf, dAppend, dAppz, dStore, DV.one, alive, freezeAt, fzLL, fzL, bRow, bU, cellsOf, setFrom, DV.isU, lenMax, lenCap, Nat.reduceEqDiff, Nat.reduceAdd, ↓reduceIte, reduceCtorEq, Nat.reduceSub, Int.reduceToNat, Int.reducePow, Nat.reducePow, Int.reduceLE, Int.reduceLT, Nat.reduceLeDiff, Nat.reduceLT, Int.reduceBEq, Int.reduceBNe, Int.reduceEq, Int.reduceNe, Int.reduceAdd, Int.reduceSub, Int.reduceMul, Int.reduceNeg, Int.reduceTDiv, Int.reduceTMod, Int.reduceMod, Int.reduceDiv, Nat.reduceMul, forall_const, implies_true, d_noriaref30_R_there, k, TR_o, TR_c, TR_so, List.append_assoc, Nat.add_zero, Duo.put_len, Duo.put_lenA, endT_normal, endT_ret, dSlice, dBound, List.length_drop, Nat.mul_one, il_len, w, hcondQ]) | ((with_reducible refine And.intro ?_ ?_); · first | trivial | omega | (simp; done) | (simp; omega)) | ((first | ((with_reducible refine dwp_condI (t := ?_) ?_ (fun hcQ => ?_) (fun hcQ => ?_)); rotate_left; · rfl) | ((with_reducible refine dops_guardI (t := ?_) ?_ (fun hcQ => ?_) (fun hcQ => ?_)); rotate_left; · rfl)) <;> (have hn := hcQ; have hcondQ := hcQ) <;> (try simp only [decide_eq_true_eq, decide_eq_false_iff_not, beq_iff_eq, bne_iff_ne, ne_eq, Bool.and_eq_true, Bool.or_eq_true, Bool.not_eq_true, Bool.not_eq_false, beq_eq_false_iff_ne, bne_eq_false_iff_eq, Bool.not_eq_true', Bool.not_eq_false', Int.ofNat_lt, Int.ofNat_le, Bool.or_eq_false_iff, Bool.and_eq_false_imp, Decidable.not_not, gt_iff_lt, ge_iff_le] at hn) <;> (try (exfalso; omega)) <;> (refine Todo.of ?_)) | (((with_reducible refine dwp_condA ?_ ?_ ?_); · rfl) <;> (refine Todo.of ?_))))
  (all_goals (first | exact ⟨_, _, rfl, rfl⟩ | (refine ⟨?_, _, _, rfl, ?_⟩ <;> grind [qthereB, qthereS]) | (refine ⟨_, _, rfl, ?_⟩; grind [qthereB, qthereS]) | skip))

def qendS (u : RS) (r : Int × Int) : RS := if r.2 ≠ 0 then { u with e := r.2 } else qpushS u r.1
def qoperS (v : RS) (x : Ins) : RS :=
  if qpopB v = false then qpopS v else
  if x.o = 4 then qendS (qpopS v) (unF x.a (qpopV v)) else
  if qpopB (qpopS v) = false then qpopS (qpopS v) else qendS (qpopS (qpopS v)) (binF x.a (qpopV (qpopS v)) (qpopV v))
noncomputable def s_qoper := specT TR (fun x : Ins => [.agg (cIns x)]) fun v x => (okR v, .tup [], qoperS v x)
theorem s_qoper_run {hp t : List DObj} {n m : Nat} {v : RS} (k : Three hp n m) (x : Ins) : s_qoper [.ptr n 1 0 0, .agg (cIns x)] (TR.put hp n m v ++ t) = ⟨okR v, .tup [], TR.put hp n m (qoperS v x) ++ t⟩ := specT_run TR_ok injL_ins _ k x
theorem okR_pop {v : RS} (h : okR v) : okR (qpopS v) := by
  unfold qpopS
  split
  · exact ⟨h.s, h.p0, h.p1, h.c, h.si, h.ci⟩
  · exact ⟨by have := h.s; simp only [List.length_take]; omega, h.p0, h.p1, h.c, fun x hx => h.si x (List.mem_of_mem_take hx), h.ci⟩
theorem qpopV_in {v : RS} (h : okR v) : in64 (qpopV v) := by
  unfold qpopV
  rw [List.getD_eq_getElem?_getD]
  cases e : v.S[v.S.length - 1]? with
  | none => simp [in64]
  | some x => exact h.si x (List.mem_of_getElem? e)
theorem ok_qoper : OkH Try.prog 29 s_qoper := by
  refine OkH.mkT (ps := [(33, s_Un), (34, s_Bin)]) (hs := [(28, s_qpop), (26, s_qpush)]) TR_ok ⟨ok_ref_Un, ok_ref_Bin, trivial⟩ ⟨ok_qpop, ok_qpush, trivial⟩ m_noriaref30_R_operate (fun _ => rfl) (fun _ _ _ => rfl) fun n m hp v x k h => ?_
  have k1 := k.1
  have h1 := okR_pop h
  have h2 := okR_pop h1
  have i1 := qpopV_in h
  have i2 := qpopV_in h1
  (have hcondQ := Bool.and_self; refine Todo.of ?_; repeat' (first | ((with_reducible refine Todo.to ?_); try simp only [↓rP, rT, rU, eI, eU, eB, eS, eBs, eL, eA, buildCells, sepsD, sepB, hdl, dvalX, DOp.kind, dval, frameFrom, dBin, dInt, dStr, dBeq, dUn, dLoad, cellsAt, retV, retL, DR.val, fzT, fzVs, fzV, fz1, DV.immB, IntKind.bits, dCallP, viewVs, viewV, view1, capVL, capV, viewL, noMemV, noMem, elemsOf, dAppend, dAppz, dStore, DV.one, alive, freezeAt, fzLL, fzL, bRow, bU, cellsOf, setFrom, DV.isU, lenMax, lenCap, Nat.reduceEqDiff, Nat.reduceAdd, ↓reduceIte, reduceCtorEq, Nat.reduceSub, Int.reduceToNat, Int.reducePow, Nat.reducePow, Int.reduceLE, Int.reduceLT, Nat.reduceLeDiff, Nat.reduceLT, Int.reduceBEq, Int.reduceBNe, Int.reduceEq, Int.reduceNe, Int.reduceAdd, Int.reduceSub, Int.reduceMul, Int.reduceNeg, Int.reduceTDiv, Int.reduceTMod, Int.reduceMod, Int.reduceDiv, Nat.reduceMul, forall_const, implies_true, d_noriaref30_R_operate, k, TR_o, TR_c, TR_b, TR_so, List.append_assoc, Nat.add_zero, Duo.put_len, Duo.put_lenA, endT_normal, endT_ret, dSlice, dBound, List.length_drop, Nat.mul_one, il_len, s_qpop_run, s_qpush_run, s_Un_at, s_Bin_at, fUn, fBin, h, h1, h2, i1, i2, hcondQ]) | ((with_reducible refine And.intro ?_ ?_); · first | trivial | omega | (simp; done) | (simp; omega)) | ((first | ((with_reducible refine dwp_condI (t := ?_) ?_ (fun hcQ => ?_) (fun hcQ => ?_)); rotate_left; · rfl) | ((with_reducible refine dops_guardI (t := ?_) ?_ (fun hcQ => ?_) (fun hcQ => ?_)); rotate_left; · rfl)) <;> (have hn := hcQ; have hcondQ := hcQ) <;> (try simp only [decide_eq_true_eq, decide_eq_false_iff_not, beq_iff_eq, bne_iff_ne, ne_eq, Bool.and_eq_true, Bool.or_eq_true, Bool.not_eq_true, Bool.not_eq_false, beq_eq_false_iff_ne, bne_eq_false_iff_eq, Bool.not_eq_true', Bool.not_eq_false', Int.ofNat_lt, Int.ofNat_le, Bool.or_eq_false_iff, Bool.and_eq_false_imp, Decidable.not_not, gt_iff_lt, ge_iff_le] at hn) <;> (try (exfalso; omega)) <;> (refine Todo.of ?_)) | (((with_reducible refine dwp_condA ?_ ?_ ?_); · rfl) <;> (refine Todo.of ?_))))
  (all_goals (first | exact ⟨_, _, rfl, rfl⟩ | (refine ⟨?_, _, _, rfl, ?_⟩ <;> grind [qoperS, qendS]) | (refine ⟨_, _, rfl, ?_⟩; grind [qoperS, qendS]) | skip))

def qplaceS (v : RS) (x : Ins) : RS :=
  if qpopB v = false then qpopS v else
  if x.o = 9 ∧ qpopB (qpopS v) = false then qpopS (qpopS v) else
  let u := if x.o = 9 then qpopS (qpopS v) else qpopS v
  if qthereB u x.a x.b = false then qthereS u x.a x.b else
  if qpopV v < 0 ∨ x.b ≤ qpopV v then { qthereS u x.a x.b with e := 16 } else
  if x.o = 9 then { qthereS u x.a x.b with M := (qthereS u x.a x.b).M.set (x.a + qpopV v).toNat (qpopV (qpopS v)) } else qpushS (qthereS u x.a x.b) ((qthereS u x.a x.b).M.getD (x.a + qpopV v).toNat 0)
noncomputable def s_qplace := specT TR (fun x : Ins => [.agg (cIns x)]) fun v x => (okR v ∧ 0 ≤ x.a ∧ x.a ≤ 65535 ∧ 1 ≤ x.b ∧ x.b ≤ 8, .tup [], qplaceS v x)
theorem s_qplace_run {hp t : List DObj} {n m : Nat} {v : RS} (k : Three hp n m) (x : Ins) : s_qplace [.ptr n 1 0 0, .agg (cIns x)] (TR.put hp n m v ++ t) = ⟨okR v ∧ 0 ≤ x.a ∧ x.a ≤ 65535 ∧ 1 ≤ x.b ∧ x.b ≤ 8, .tup [], TR.put hp n m (qplaceS v x) ++ t⟩ := specT_run TR_ok injL_ins _ k x
theorem okR_there {v : RS} (h : okR v) (a b : Int) : okR (qthereS v a b) := by
  unfold qthereS
  split
  · exact ⟨h.s, h.p0, h.p1, h.c, h.si, h.ci⟩
  · exact h
theorem qthere_le {u : RS} {a b : Int} (h : qthereB u a b = true) : a + b ≤ u.M.length := by
  simp only [qthereB, Bool.not_eq_true', decide_eq_false_iff_not] at h
  omega
theorem qthere_M (v : RS) (a b : Int) : (qthereS v a b).M = v.M := by unfold qthereS; split <;> rfl
theorem ok_qplace : OkH Try.prog 30 s_qplace := by
  refine OkH.mkT (ps := []) (hs := [(28, s_qpop), (26, s_qpush), (27, s_qthere)]) TR_ok trivial ⟨ok_qpop, ok_qpush, ok_qthere, trivial⟩ m_noriaref30_R_place (fun _ => rfl) (fun _ _ _ => rfl) fun n m hp v x k h => ?_
  obtain ⟨h, a0, a1, b0, b1⟩ := h
  have k1 := k.1
  have h1 := okR_pop h
  have h2 := okR_pop h1
  have b0' : 0 ≤ x.b := by omega
  (have hcondQ := Bool.and_self; refine Todo.of ?_; repeat' (first | ((with_reducible refine Todo.to ?_); try simp only [↓rP, rT, rU, eI, eU, eB, eS, eBs, eL, eA, buildCells, sepsD, sepB, hdl, dvalX, DOp.kind, dval, frameFrom, dBin, dInt, dStr, dBeq, dUn, dLoad, cellsAt, retV, retL, DR.val, fzT, fzVs, fzV, fz1, DV.immB, IntKind.bits, dCallP, viewVs, viewV, view1, capVL, capV, viewL, noMemV, noMem, elemsOf, dAppend, dAppz, dStore, DV.one, alive, freezeAt, fzLL, fzL, bRow, bU, cellsOf, setFrom, DV.isU, lenMax, lenCap, Nat.reduceEqDiff, Nat.reduceAdd, ↓reduceIte, reduceCtorEq, Nat.reduceSub, Int.reduceToNat, Int.reducePow, Nat.reducePow, Int.reduceLE, Int.reduceLT, Nat.reduceLeDiff, Nat.reduceLT, Int.reduceBEq, Int.reduceBNe, Int.reduceEq, Int.reduceNe, Int.reduceAdd, Int.reduceSub, Int.reduceMul, Int.reduceNeg, Int.reduceTDiv, Int.reduceTMod, Int.reduceMod, Int.reduceDiv, Nat.reduceMul, forall_const, implies_true, d_noriaref30_R_place, k, TR_o, TR_c, TR_b, TR_so, List.append_assoc, Nat.add_zero, Duo.put_len, Duo.put_lenA, endT_normal, endT_ret, dSlice, dBound, List.length_drop, Nat.mul_one, il_len, s_qpop_run, s_qpush_run, s_qthere_run, h, h1, h2, a0, a1, b0', b1, hcondQ]) | ((with_reducible refine And.intro ?_ ?_); · first | trivial | omega | (simp; done) | (simp; omega)) | ((first | ((with_reducible refine dwp_condI (t := ?_) ?_ (fun hcQ => ?_) (fun hcQ => ?_)); rotate_left; · rfl) | ((with_reducible refine dops_guardI (t := ?_) ?_ (fun hcQ => ?_) (fun hcQ => ?_)); rotate_left; · rfl)) <;> (have hn := hcQ; have hcondQ := hcQ) <;> (try simp only [decide_eq_true_eq, decide_eq_false_iff_not, beq_iff_eq, bne_iff_ne, ne_eq, Bool.and_eq_true, Bool.or_eq_true, Bool.not_eq_true, Bool.not_eq_false, beq_eq_false_iff_ne, bne_eq_false_iff_eq, Bool.not_eq_true', Bool.not_eq_false', Int.ofNat_lt, Int.ofNat_le, Bool.or_eq_false_iff, Bool.and_eq_false_imp, Decidable.not_not, gt_iff_lt, ge_iff_le] at hn) <;> (try (exfalso; omega)) <;> (refine Todo.of ?_)) | (((with_reducible refine dwp_condA ?_ ?_ ?_); · rfl) <;> (refine Todo.of ?_))))
  (all_goals (first | exact ⟨_, _, rfl, rfl⟩ | (refine ⟨?_, _, _, rfl, ?_⟩ <;> grind [qplaceS]) | (refine ⟨_, _, rfl, ?_⟩; grind [qplaceS]) | skip))
  · have hb := qthere_le (u := qpopS (qpopS v)) (a := x.a) (b := x.b) (by assumption)
    have hM := qthere_M (qpopS (qpopS v)) x.a x.b
    have hz : (qthereS (qpopS (qpopS v)) x.a x.b).M.length ≤ 1000000 := by rw [hM]; exact h2.c
    rw [← hM] at hb
    have i0 : 0 ≤ qpopV v ∧ qpopV v < x.b := by omega
    have w : IntKind.i64.wrap (x.a + qpopV v) = x.a + qpopV v := wrap_i64_id (by omega)
    have i1 : (x.a + qpopV v).toNat < (qthereS (qpopS (qpopS v)) x.a x.b).M.length := by omega
    have i2 : 0 ≤ x.a + qpopV v ∧ x.a + qpopV v < ((qthereS (qpopS (qpopS v)) x.a x.b).M.length : Int) := by omega
    have row := il_getD i1
    have sc := fun y => TR_sc (v := qthereS (qpopS (qpopS v)) x.a x.b) (t := [⟨.loc, 4, [cIns x]⟩]) (c := (qthereS (qpopS (qpopS v)) x.a x.b).M.set (x.a + qpopV v).toNat y) k (by simp)
    (have hcondQ := Bool.and_self; refine Todo.of ?_; repeat' (first | ((with_reducible refine Todo.to ?_); try simp only [↓rP, rT, rU, eI, eU, eB, eS, eBs, eL, eA, buildCells, sepsD, sepB, hdl, dvalX, DOp.kind, dval, frameFrom, dBin, dInt, dStr, dBeq, dUn, dLoad, cellsAt, retV, retL, DR.val, fzT, fzVs, fzV, fz1, DV.immB, IntKind.bits, dCallP, viewVs, viewV, view1, capVL, capV, viewL, noMemV, noMem, elemsOf, dAppend, dAppz, dStore, DV.one, alive, freezeAt, fzLL, fzL, bRow, bU, cellsOf, setFrom, DV.isU, lenMax, lenCap, Nat.reduceEqDiff, Nat.reduceAdd, ↓reduceIte, reduceCtorEq, Nat.reduceSub, Int.reduceToNat, Int.reducePow, Nat.reducePow, Int.reduceLE, Int.reduceLT, Nat.reduceLeDiff, Nat.reduceLT, Int.reduceBEq, Int.reduceBNe, Int.reduceEq, Int.reduceNe, Int.reduceAdd, Int.reduceSub, Int.reduceMul, Int.reduceNeg, Int.reduceTDiv, Int.reduceTMod, Int.reduceMod, Int.reduceDiv, Nat.reduceMul, forall_const, implies_true, w, i1, i2, row, sc, il_set, hcondQ]) | ((with_reducible refine And.intro ?_ ?_); · first | trivial | omega | (simp; done) | (simp; omega)) | ((first | ((with_reducible refine dwp_condI (t := ?_) ?_ (fun hcQ => ?_) (fun hcQ => ?_)); rotate_left; · rfl) | ((with_reducible refine dops_guardI (t := ?_) ?_ (fun hcQ => ?_) (fun hcQ => ?_)); rotate_left; · rfl)) <;> (have hn := hcQ; have hcondQ := hcQ) <;> (try simp only [decide_eq_true_eq, decide_eq_false_iff_not, beq_iff_eq, bne_iff_ne, ne_eq, Bool.and_eq_true, Bool.or_eq_true, Bool.not_eq_true, Bool.not_eq_false, beq_eq_false_iff_ne, bne_eq_false_iff_eq, Bool.not_eq_true', Bool.not_eq_false', Int.ofNat_lt, Int.ofNat_le, Bool.or_eq_false_iff, Bool.and_eq_false_imp, Decidable.not_not, gt_iff_lt, ge_iff_le] at hn) <;> (try (exfalso; omega)) <;> (refine Todo.of ?_)) | (((with_reducible refine dwp_condA ?_ ?_ ?_); · rfl) <;> (refine Todo.of ?_))))
    (all_goals (first | exact ⟨_, _, rfl, rfl⟩ | (refine ⟨?_, _, _, rfl, ?_⟩ <;> grind [qplaceS]) | (refine ⟨_, _, rfl, ?_⟩; grind [qplaceS]) | skip))
  · have hb := qthere_le (u := qpopS v) (a := x.a) (b := x.b) (by assumption)
    have hM := qthere_M (qpopS v) x.a x.b
    have hz : (qthereS (qpopS v) x.a x.b).M.length ≤ 1000000 := by rw [hM]; exact h1.c
    rw [← hM] at hb
    have i0 : 0 ≤ qpopV v ∧ qpopV v < x.b := by omega
    have w : IntKind.i64.wrap (x.a + qpopV v) = x.a + qpopV v := wrap_i64_id (by omega)
    have i1 : (x.a + qpopV v).toNat < (qthereS (qpopS v) x.a x.b).M.length := by omega
    have i2 : 0 ≤ x.a + qpopV v ∧ x.a + qpopV v < ((qthereS (qpopS v) x.a x.b).M.length : Int) := by omega
    have row := il_getD i1
    have hk := okR_there h1 x.a x.b
    (have hcondQ := Bool.and_self; refine Todo.of ?_; repeat' (first | ((with_reducible refine Todo.to ?_); try simp only [↓rP, rT, rU, eI, eU, eB, eS, eBs, eL, eA, buildCells, sepsD, sepB, hdl, dvalX, DOp.kind, dval, frameFrom, dBin, dInt, dStr, dBeq, dUn, dLoad, cellsAt, retV, retL, DR.val, fzT, fzVs, fzV, fz1, DV.immB, IntKind.bits, dCallP, viewVs, viewV, view1, capVL, capV, viewL, noMemV, noMem, elemsOf, dAppend, dAppz, dStore, DV.one, alive, freezeAt, fzLL, fzL, bRow, bU, cellsOf, setFrom, DV.isU, lenMax, lenCap, Nat.reduceEqDiff, Nat.reduceAdd, ↓reduceIte, reduceCtorEq, Nat.reduceSub, Int.reduceToNat, Int.reducePow, Nat.reducePow, Int.reduceLE, Int.reduceLT, Nat.reduceLeDiff, Nat.reduceLT, Int.reduceBEq, Int.reduceBNe, Int.reduceEq, Int.reduceNe, Int.reduceAdd, Int.reduceSub, Int.reduceMul, Int.reduceNeg, Int.reduceTDiv, Int.reduceTMod, Int.reduceMod, Int.reduceDiv, Nat.reduceMul, forall_const, implies_true, w, i1, i2, row, k, hk, s_qpush_run, hcondQ]) | ((with_reducible refine And.intro ?_ ?_); · first | trivial | omega | (simp; done) | (simp; omega)) | ((first | ((with_reducible refine dwp_condI (t := ?_) ?_ (fun hcQ => ?_) (fun hcQ => ?_)); rotate_left; · rfl) | ((with_reducible refine dops_guardI (t := ?_) ?_ (fun hcQ => ?_) (fun hcQ => ?_)); rotate_left; · rfl)) <;> (have hn := hcQ; have hcondQ := hcQ) <;> (try simp only [decide_eq_true_eq, decide_eq_false_iff_not, beq_iff_eq, bne_iff_ne, ne_eq, Bool.and_eq_true, Bool.or_eq_true, Bool.not_eq_true, Bool.not_eq_false, beq_eq_false_iff_ne, bne_eq_false_iff_eq, Bool.not_eq_true', Bool.not_eq_false', Int.ofNat_lt, Int.ofNat_le, Bool.or_eq_false_iff, Bool.and_eq_false_imp, Decidable.not_not, gt_iff_lt, ge_iff_le] at hn) <;> (try (exfalso; omega)) <;> (refine Todo.of ?_)) | (((with_reducible refine dwp_condA ?_ ?_ ?_); · rfl) <;> (refine Todo.of ?_))))
    (all_goals (first | exact ⟨_, _, rfl, rfl⟩ | (refine ⟨?_, _, _, rfl, ?_⟩ <;> grind [qplaceS]) | (refine ⟨_, _, rfl, ?_⟩; grind [qplaceS]) | skip))

def qdoS (v : RS) (x : Ins) : RS :=
  let u : RS := { v with pc := v.pc + 1 }
  if x.o = 1 then qpushS u x.n else
  if x.o = 2 then (if qthereB u x.a 1 then qpushS (qthereS u x.a 1) ((qthereS u x.a 1).M.getD x.a.toNat 0) else qthereS u x.a 1) else
  if x.o = 3 then (if qpopB u = false then qpopS u else if qthereB (qpopS u) x.a 1 then { qthereS (qpopS u) x.a 1 with M := (qthereS (qpopS u) x.a 1).M.set x.a.toNat (qpopV u) } else qthereS (qpopS u) x.a 1) else
  if x.o = 4 ∨ x.o = 5 then qoperS u x else if x.o = 6 then { u with pc := x.a } else
  if x.o = 7 then (if qpopB u = true ∧ qpopV u = 0 then { qpopS u with pc := x.a } else qpopS u) else
  if x.o = 8 ∨ x.o = 9 then qplaceS u x else { u with e := -1 }
noncomputable def s_qdo := specT TR (fun x : Ins => [.agg (cIns x)]) fun v x => (okR v ∧ v.pc < 1000000000 ∧ rightF x = true, .tup [], qdoS v x)
theorem right_o {x : Ins} (h : rightF x = true) : 1 ≤ x.o ∧ x.o ≤ 10 := by
  simp only [rightF, Bool.and_eq_true, decide_eq_true_eq] at h
  exact ⟨h.1.1.1.1, h.1.1.1.2⟩
theorem ok_qdo : OkH Try.prog 21 s_qdo := by
  refine OkH.mkT (ps := []) (hs := [(28, s_qpop), (26, s_qpush), (27, s_qthere), (29, s_qoper), (30, s_qplace)]) TR_ok trivial ⟨ok_qpop, ok_qpush, ok_qthere, ok_qoper, ok_qplace, trivial⟩ m_noriaref30_R_do (fun _ => rfl) (fun _ _ _ => rfl) fun n m hp v x k h => ?_
  obtain ⟨h, hpc, hr⟩ := h
  have p0 := h.p0
  have hu : okR { v with pc := v.pc + 1 } := ⟨h.s, by simp only; omega, by simp only; omega, h.c, h.si, h.ci⟩
  have h1 := okR_pop hu
  have w : IntKind.i64.wrap (v.pc + 1) = v.pc + 1 := wrap_i64_id (by omega)
  have ra := right_a hr
  have ro := right_o hr
  have rb := fun h => right_b hr h
  (have hcondQ := Bool.and_self; refine Todo.of ?_; repeat' (first | ((with_reducible refine Todo.to ?_); try simp only [↓rP, rT, rU, eI, eU, eB, eS, eBs, eL, eA, buildCells, sepsD, sepB, hdl, dvalX, DOp.kind, dval, frameFrom, dBin, dInt, dStr, dBeq, dUn, dLoad, cellsAt, retV, retL, DR.val, fzT, fzVs, fzV, fz1, DV.immB, IntKind.bits, dCallP, viewVs, viewV, view1, capVL, capV, viewL, noMemV, noMem, elemsOf, dAppend, dAppz, dStore, DV.one, alive, freezeAt, fzLL, fzL, bRow, bU, cellsOf, setFrom, DV.isU, lenMax, lenCap, Nat.reduceEqDiff, Nat.reduceAdd, ↓reduceIte, reduceCtorEq, Nat.reduceSub, Int.reduceToNat, Int.reducePow, Nat.reducePow, Int.reduceLE, Int.reduceLT, Nat.reduceLeDiff, Nat.reduceLT, Int.reduceBEq, Int.reduceBNe, Int.reduceEq, Int.reduceNe, Int.reduceAdd, Int.reduceSub, Int.reduceMul, Int.reduceNeg, Int.reduceTDiv, Int.reduceTMod, Int.reduceMod, Int.reduceDiv, Nat.reduceMul, forall_const, implies_true, d_noriaref30_R_do, k, TR_o, TR_c, TR_b, TR_so, List.append_assoc, Nat.add_zero, Duo.put_len, Duo.put_lenA, endT_normal, endT_ret, dSlice, dBound, List.length_drop, Nat.mul_one, il_len, w, s_qpop_run, s_qpush_run, s_qthere_run, s_qoper_run, s_qplace_run, hu, h1, ra , hcondQ]) | ((with_reducible refine And.intro ?_ ?_); · first | trivial | exact ⟨hu, ra.1, ra.2, rb (by omega)⟩ | omega | (simp; done) | (simp; omega)) | ((first | ((with_reducible refine dwp_condI (t := ?_) ?_ (fun hcQ => ?_) (fun hcQ => ?_)); rotate_left; · rfl) | ((with_reducible refine dops_guardI (t := ?_) ?_ (fun hcQ => ?_) (fun hcQ => ?_)); rotate_left; · rfl)) <;> (have hn := hcQ; have hcondQ := hcQ) <;> (try simp only [decide_eq_true_eq, decide_eq_false_iff_not, beq_iff_eq, bne_iff_ne, ne_eq, Bool.and_eq_true, Bool.or_eq_true, Bool.not_eq_true, Bool.not_eq_false, beq_eq_false_iff_ne, bne_eq_false_iff_eq, Bool.not_eq_true', Bool.not_eq_false', Int.ofNat_lt, Int.ofNat_le, Bool.or_eq_false_iff, Bool.and_eq_false_imp, Decidable.not_not, gt_iff_lt, ge_iff_le] at hn) <;> (try (exfalso; omega)) <;> (refine Todo.of ?_)) | (((with_reducible refine dwp_condA ?_ ?_ ?_); · rfl) <;> (refine Todo.of ?_))))
  (all_goals (first | exact ⟨_, _, rfl, rfl⟩ | (refine ⟨?_, _, _, rfl, ?_⟩ <;> grind [qdoS]) | (refine ⟨_, _, rfl, ?_⟩; grind [qdoS]) | skip))
  · have hb := qthere_le (u := { v with pc := v.pc + 1 }) (a := x.a) (b := 1) (by assumption)
    have hM := qthere_M { v with pc := v.pc + 1 } x.a 1
    rw [← hM] at hb
    have i1 : x.a.toNat < (qthereS { v with pc := v.pc + 1 } x.a 1).M.length := by omega
    have i2 : x.a < ((qthereS { v with pc := v.pc + 1 } x.a 1).M.length : Int) := by omega
    have row := il_getD i1
    have hk := okR_there hu x.a 1
    (have hcondQ := Bool.and_self; refine Todo.of ?_; repeat' (first | ((with_reducible refine Todo.to ?_); try simp only [↓rP, rT, rU, eI, eU, eB, eS, eBs, eL, eA, buildCells, sepsD, sepB, hdl, dvalX, DOp.kind, dval, frameFrom, dBin, dInt, dStr, dBeq, dUn, dLoad, cellsAt, retV, retL, DR.val, fzT, fzVs, fzV, fz1, DV.immB, IntKind.bits, dCallP, viewVs, viewV, view1, capVL, capV, viewL, noMemV, noMem, elemsOf, dAppend, dAppz, dStore, DV.one, alive, freezeAt, fzLL, fzL, bRow, bU, cellsOf, setFrom, DV.isU, lenMax, lenCap, Nat.reduceEqDiff, Nat.reduceAdd, ↓reduceIte, reduceCtorEq, Nat.reduceSub, Int.reduceToNat, Int.reducePow, Nat.reducePow, Int.reduceLE, Int.reduceLT, Nat.reduceLeDiff, Nat.reduceLT, Int.reduceBEq, Int.reduceBNe, Int.reduceEq, Int.reduceNe, Int.reduceAdd, Int.reduceSub, Int.reduceMul, Int.reduceNeg, Int.reduceTDiv, Int.reduceTMod, Int.reduceMod, Int.reduceDiv, Nat.reduceMul, forall_const, implies_true, i1, i2, row, k, hk, s_qpush_run, hcondQ]) | ((with_reducible refine And.intro ?_ ?_); · first | trivial | omega | (simp; done) | (simp; omega)) | ((first | ((with_reducible refine dwp_condI (t := ?_) ?_ (fun hcQ => ?_) (fun hcQ => ?_)); rotate_left; · rfl) | ((with_reducible refine dops_guardI (t := ?_) ?_ (fun hcQ => ?_) (fun hcQ => ?_)); rotate_left; · rfl)) <;> (have hn := hcQ; have hcondQ := hcQ) <;> (try simp only [decide_eq_true_eq, decide_eq_false_iff_not, beq_iff_eq, bne_iff_ne, ne_eq, Bool.and_eq_true, Bool.or_eq_true, Bool.not_eq_true, Bool.not_eq_false, beq_eq_false_iff_ne, bne_eq_false_iff_eq, Bool.not_eq_true', Bool.not_eq_false', Int.ofNat_lt, Int.ofNat_le, Bool.or_eq_false_iff, Bool.and_eq_false_imp, Decidable.not_not, gt_iff_lt, ge_iff_le] at hn) <;> (try (exfalso; omega)) <;> (refine Todo.of ?_)) | (((with_reducible refine dwp_condA ?_ ?_ ?_); · rfl) <;> (refine Todo.of ?_))))
    (all_goals (first | exact ⟨_, _, rfl, rfl⟩ | (refine ⟨?_, _, _, rfl, ?_⟩ <;> grind [qdoS]) | (refine ⟨_, _, rfl, ?_⟩; grind [qdoS]) | skip))
  · have hb := qthere_le (u := qpopS { v with pc := v.pc + 1 }) (a := x.a) (b := 1) (by assumption)
    have hM := qthere_M (qpopS { v with pc := v.pc + 1 }) x.a 1
    rw [← hM] at hb
    have i1 : x.a.toNat < (qthereS (qpopS { v with pc := v.pc + 1 }) x.a 1).M.length := by omega
    have i2 : x.a < ((qthereS (qpopS { v with pc := v.pc + 1 }) x.a 1).M.length : Int) := by omega
    have row := il_getD i1
    have sc := fun y => TR_sc (v := qthereS (qpopS { v with pc := v.pc + 1 }) x.a 1) (t := [⟨.loc, 4, [cIns x]⟩]) (c := (qthereS (qpopS { v with pc := v.pc + 1 }) x.a 1).M.set x.a.toNat y) k (by simp)
    (have hcondQ := Bool.and_self; refine Todo.of ?_; repeat' (first | ((with_reducible refine Todo.to ?_); try simp only [↓rP, rT, rU, eI, eU, eB, eS, eBs, eL, eA, buildCells, sepsD, sepB, hdl, dvalX, DOp.kind, dval, frameFrom, dBin, dInt, dStr, dBeq, dUn, dLoad, cellsAt, retV, retL, DR.val, fzT, fzVs, fzV, fz1, DV.immB, IntKind.bits, dCallP, viewVs, viewV, view1, capVL, capV, viewL, noMemV, noMem, elemsOf, dAppend, dAppz, dStore, DV.one, alive, freezeAt, fzLL, fzL, bRow, bU, cellsOf, setFrom, DV.isU, lenMax, lenCap, Nat.reduceEqDiff, Nat.reduceAdd, ↓reduceIte, reduceCtorEq, Nat.reduceSub, Int.reduceToNat, Int.reducePow, Nat.reducePow, Int.reduceLE, Int.reduceLT, Nat.reduceLeDiff, Nat.reduceLT, Int.reduceBEq, Int.reduceBNe, Int.reduceEq, Int.reduceNe, Int.reduceAdd, Int.reduceSub, Int.reduceMul, Int.reduceNeg, Int.reduceTDiv, Int.reduceTMod, Int.reduceMod, Int.reduceDiv, Nat.reduceMul, forall_const, implies_true, i1, i2, row, sc, il_set, hcondQ]) | ((with_reducible refine And.intro ?_ ?_); · first | trivial | omega | (simp; done) | (simp; omega)) | ((first | ((with_reducible refine dwp_condI (t := ?_) ?_ (fun hcQ => ?_) (fun hcQ => ?_)); rotate_left; · rfl) | ((with_reducible refine dops_guardI (t := ?_) ?_ (fun hcQ => ?_) (fun hcQ => ?_)); rotate_left; · rfl)) <;> (have hn := hcQ; have hcondQ := hcQ) <;> (try simp only [decide_eq_true_eq, decide_eq_false_iff_not, beq_iff_eq, bne_iff_ne, ne_eq, Bool.and_eq_true, Bool.or_eq_true, Bool.not_eq_true, Bool.not_eq_false, beq_eq_false_iff_ne, bne_eq_false_iff_eq, Bool.not_eq_true', Bool.not_eq_false', Int.ofNat_lt, Int.ofNat_le, Bool.or_eq_false_iff, Bool.and_eq_false_imp, Decidable.not_not, gt_iff_lt, ge_iff_le] at hn) <;> (try (exfalso; omega)) <;> (refine Todo.of ?_)) | (((with_reducible refine dwp_condA ?_ ?_ ?_); · rfl) <;> (refine Todo.of ?_))))
    (all_goals (first | exact ⟨_, _, rfl, rfl⟩ | (refine ⟨?_, _, _, rfl, ?_⟩ <;> grind [qdoS]) | (refine ⟨_, _, rfl, ?_⟩; grind [qdoS]) | skip))
end Go.Proofs.Ytjgefhgkinocmaa
