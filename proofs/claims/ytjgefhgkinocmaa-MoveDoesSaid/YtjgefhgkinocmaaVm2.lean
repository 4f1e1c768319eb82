/- The machine of the program: what its steps tell, and make of it. -/
import Derived.Test.YtjgefhgkinocmaaVmR
import Derived.Test.YtjgefhgkinocmaaArithB
import Derived.Test.YtjgefhgkinocmaaNkZ3
set_option linter.all false
set_option maxRecDepth 20000
namespace Go.Proofs.Ytjgefhgkinocmaa
open Go.Nk

def il (l : List Int) : List (List DV) := l.map fun x => [.int .i64 x]
theorem il_len (l : List Int) : (il l).length = l.length := by simp [il]
theorem il_inj {l l' : List Int} (h : il l = il l') : l = l' := by
  have : ∀ x y : Int, [DV.int .i64 x] = [.int .i64 y] → x = y := fun x y h => by simpa using h
  exact List.map_inj_right (fun x y => this x y) |>.1 h
theorem il_getD {l : List Int} {k : Nat} (h : k < l.length) : (il l).getD k [] = [.int .i64 (l.getD k 0)] := by simp [il, List.getD, h]
theorem il_set (l : List Int) (k : Nat) (x : Int) : (il l).set k [.int .i64 x] = il (l.set k x) := by simp [il, List.map_set]
theorem il_rows (l : List Int) : ∀ e ∈ il l, e.length = 1 := by intro e h; simp [il] at h; obtain ⟨x, _, rfl⟩ := h; rfl

structure MS where
  cells : List Int
  raw : List Int
  hi : Int
  pc : Int
  used : Int
def mRow (m : Nat) (v : MS) : List DV := .own m v.cells.length 0 v.cells.length :: (v.raw.map (DV.int .i64 ·) ++ [.int .i64 v.hi, .int .i64 v.pc, .int .i64 v.used])
def TM : Duo MS := ⟨fun m v => ⟨.loc, 20, [mRow m v]⟩, fun v => ⟨.imm, 1, il v.cells⟩⟩
theorem TM_ok : TM.ok where
  inj1 m v m' v' h := by simp [TM, mRow] at h; exact h.1.1
  inj2 m v v' h h2 := by
    simp only [TM, mRow, DObj.mk.injEq, List.cons.injEq, true_and, and_true] at h h2
    have h3 := il_inj h2
    have h4 := h.2
    have h5 := congrArg List.reverse h4
    simp at h5
    obtain ⟨e1, e2, e3, e4⟩ := h5
    have e5 : v.raw = v'.raw := List.map_inj_right (fun x y e => by simpa using e) |>.1 e4
    cases v; cases v'; simp_all
  cut1 m v k h := by
    have : ∀ l : List Int, (l.map (DV.int .i64 ·)).map (DV.cut k) = l.map (DV.int .i64 ·) := fun l => by simp [DV.cut, DV.inB]
    simp only [TM, mRow, DObj.cut, if_true, List.map_cons, List.map_append, List.map_nil, this]
    simp [DV.cut, DV.inB, h]
  cut2 v k := by simp [TM, DObj.cut]

section
variable {hp t : List DObj} {n m : Nat} {v : MS}
theorem TM_o (k : Three hp n m) : (TM.put hp n m v ++ t)[n]? = some ⟨.loc, 20, [mRow m v]⟩ := Duo.get_o k
theorem TM_c (k : Three hp n m) : (TM.put hp n m v ++ t)[m]? = some ⟨.imm, 1, il v.cells⟩ := Duo.get_c k
theorem TM_b {o : DObj} : (TM.put hp n m v ++ (o :: t))[hp.length]? = some o := Duo.get_b
theorem TM_so {v' : MS} (k : Three hp n m) (h : v'.cells = v.cells) : (TM.put hp n m v ++ t).set n ⟨.loc, 20, [mRow m v']⟩ = TM.put hp n m v' ++ t := Duo.set_o (T := TM) k (by simp [TM, h])
theorem TM_sc {c : List Int} (k : Three hp n m) (h : c.length = v.cells.length) : (TM.put hp n m v ++ t).set m ⟨.imm, 1, il c⟩ = TM.put hp n m { v with cells := c } ++ t := by
  have := Duo.set_c (T := TM) (v := v) (v' := { v with cells := c }) (t := t) k (by simp [TM, mRow, h])
  exact this
end
section
variable {m : Nat} {v : MS}
theorem mRow_len (h : v.raw.length = 16) : (mRow m v).length = 20 := by simp [mRow, h]
theorem mRow_0 : (mRow m v).getD 0 .undef = .own m v.cells.length 0 v.cells.length := rfl
theorem mRow_17 (h : v.raw.length = 16) : (mRow m v).drop 17 = [.int .i64 v.hi, .int .i64 v.pc, .int .i64 v.used] := by
  rw [mRow, List.drop_succ_cons, List.drop_append, List.drop_of_length_le (by simp [h])]; simp [h]
theorem mRow_18 (h : v.raw.length = 16) : (mRow m v).drop 18 = [.int .i64 v.pc, .int .i64 v.used] := by
  rw [mRow, List.drop_succ_cons, List.drop_append, List.drop_of_length_le (by simp [h])]; simp [h]
theorem mRow_19 (h : v.raw.length = 16) : (mRow m v).drop 19 = [.int .i64 v.used] := by
  rw [mRow, List.drop_succ_cons, List.drop_append, List.drop_of_length_le (by simp [h])]; simp [h]
theorem mRow_i (h : v.raw.length = 16) (i : Nat) (hi : i < 16) : ((mRow m v).drop (1 + i)).getD 0 .undef = .int .i64 (v.raw.getD i 0) := by
  rw [mRow, Nat.add_comm, List.drop_succ_cons]
  simp only [List.getD_eq_getElem?_getD, List.getElem?_drop, Nat.add_zero]
  rw [List.getElem?_append_left (by simp [h]; omega)]
  simp [h, hi]
theorem mRow_s17 (h : v.raw.length = 16) (x : Int) : setFrom (mRow m v) 17 [.int .i64 x] = mRow m { v with hi := x } := by
  simp only [setFrom, mRow]
  rw [List.set_cons_succ, List.set_append_right _ _ (by simp [h])]; simp [h]
theorem mRow_s18 (h : v.raw.length = 16) (x : Int) : setFrom (mRow m v) 18 [.int .i64 x] = mRow m { v with pc := x } := by
  simp only [setFrom, mRow]
  rw [List.set_cons_succ, List.set_append_right _ _ (by simp [h])]; simp [h]
theorem mRow_s19 (h : v.raw.length = 16) (x : Int) : setFrom (mRow m v) 19 [.int .i64 x] = mRow m { v with used := x } := by
  simp only [setFrom, mRow]
  rw [List.set_cons_succ, List.set_append_right _ _ (by simp [h])]; simp [h]
theorem mRow_si (h : v.raw.length = 16) (i : Nat) (hi : i < 16) (x : Int) : setFrom (mRow m v) (1 + i) [.int .i64 x] = mRow m { v with raw := v.raw.set i x } := by
  simp only [setFrom, mRow]
  rw [Nat.add_comm, List.set_cons_succ, List.set_append_left _ _ (by simp [h]; omega)]; simp [List.map_set]
end

structure okM (v : MS) : Prop where
  r : v.raw.length = 16
  h0 : 0 ≤ v.hi
  h1 : v.hi ≤ 16
  p0 : 0 ≤ v.pc
  p1 : v.pc ≤ 1000000000
  u0 : 0 ≤ v.used
  u1 : v.used ≤ 1000000000
  c : v.cells.length ≤ 1000000
  ri : ∀ x ∈ v.raw, in64 x
  ci : ∀ x ∈ v.cells, in64 x

/-! has, pop, push, there -/
noncomputable def s_has := specT TM (fun n : Int => [.int .i64 n]) fun v n => (okM v, .bool (decide (n ≤ v.hi)), v)
theorem s_has_run {hp t : List DObj} {n m : Nat} {v : MS} (k : Three hp n m) (a : Int) : s_has [.ptr n 1 0 0, .int .i64 a] (TM.put hp n m v ++ t) = ⟨okM v, .bool (decide (a ≤ v.hi)), TM.put hp n m v ++ t⟩ := specT_run TM_ok injL_int _ k a
theorem ok_has : OkH Try.prog 42 s_has := by
  refine OkH.mkT (ps := []) (hs := []) TM_ok trivial trivial m_vm_machine_has (fun _ => rfl) (fun _ _ _ => rfl) fun n m hp v a k h => ?_
  have r := h.r
  (have hcondQ := Bool.and_self; refine Todo.of ?_; repeat' (first | ((with_reducible refine Todo.to ?_); try simp only [↓rP, rT, rU, eI, eU, eB, eS, eBs, eL, eA, buildCells, sepsD, sepB, hdl, dvalX, DOp.kind, dval, frameFrom, dBin, dInt, dStr, dBeq, dUn, dLoad, cellsAt, retV, retL, DR.val, fzT, fzVs, fzV, fz1, DV.immB, IntKind.bits, dCallP, viewVs, viewV, view1, capVL, capV, viewL, noMemV, noMem, elemsOf, dAppend, dAppz, dStore, DV.one, alive, freezeAt, fzLL, fzL, bRow, bU, cellsOf, setFrom, DV.isU, lenMax, lenCap, Nat.reduceEqDiff, Nat.reduceAdd, ↓reduceIte, reduceCtorEq, Nat.reduceSub, Int.reduceToNat, Int.reducePow, Nat.reducePow, Int.reduceLE, Int.reduceLT, Nat.reduceLeDiff, Nat.reduceLT, Int.reduceBEq, Int.reduceBNe, Int.reduceEq, Int.reduceNe, Int.reduceAdd, Int.reduceSub, Int.reduceMul, Int.reduceNeg, Int.reduceTDiv, Int.reduceTMod, Int.reduceMod, Int.reduceDiv, Nat.reduceMul, forall_const, implies_true, d_vm_machine_has, k, TM_o, mRow_17, r, endT_normal, endT_ret, hcondQ]) | ((with_reducible refine And.intro ?_ ?_); · first | trivial | omega | (simp; done) | (simp; omega)) | ((first | ((with_reducible refine dwp_condI (t := ?_) ?_ (fun hcQ => ?_) (fun hcQ => ?_)); rotate_left; · rfl) | ((with_reducible refine dops_guardI (t := ?_) ?_ (fun hcQ => ?_) (fun hcQ => ?_)); rotate_left; · rfl)) <;> (have hn := hcQ; have hcondQ := hcQ) <;> (try simp only [decide_eq_true_eq, decide_eq_false_iff_not, beq_iff_eq, bne_iff_ne, ne_eq, Bool.and_eq_true, Bool.or_eq_true, Bool.not_eq_true, Bool.not_eq_false, beq_eq_false_iff_ne, bne_eq_false_iff_eq, Bool.not_eq_true', Bool.not_eq_false', Int.ofNat_lt, Int.ofNat_le, Bool.or_eq_false_iff, Bool.and_eq_false_imp, Decidable.not_not, gt_iff_lt, ge_iff_le] at hn) <;> (try (exfalso; omega)) <;> (refine Todo.of ?_)) | (((with_reducible refine dwp_condA ?_ ?_ ?_); · rfl) <;> (refine Todo.of ?_))))
  all_goals exact ⟨_, _, rfl, rfl⟩

def popV (v : MS) : Int := v.raw.getD (v.hi - 1).toNat 0
def popS (v : MS) : MS := { v with hi := v.hi - 1 }
noncomputable def s_pop := specT TM (fun _ : Unit => []) fun v _ => (okM v ∧ 1 ≤ v.hi, .int .i64 (popV v), popS v)
theorem s_pop_run {hp t : List DObj} {n m : Nat} {v : MS} (k : Three hp n m) : s_pop [.ptr n 1 0 0] (TM.put hp n m v ++ t) = ⟨okM v ∧ 1 ≤ v.hi, .int .i64 (popV v), TM.put hp n m (popS v) ++ t⟩ := specT_run TM_ok (injL_unit _) _ k ()
theorem ok_pop : OkH Try.prog 43 s_pop := by
  refine OkH.mkT (ps := []) (hs := []) TM_ok trivial trivial m_vm_machine_pop (fun _ => rfl) (fun _ _ _ => rfl) fun n m hp v a k h => ?_
  obtain ⟨h, h2⟩ := h
  have r := h.r
  have := h.h1
  have w : IntKind.i64.wrap (v.hi - 1) = v.hi - 1 := wrap_i64_id (by omega)
  have r2 : ({ v with hi := v.hi - 1 } : MS).raw.length = 16 := r
  have i1 := mRow_i (m := m) r2 (v.hi - 1).toNat (by omega)
  have i2 : 0 ≤ v.hi - 1 ∧ v.hi - 1 < 16 := by omega
  (have hcondQ := Bool.and_self; refine Todo.of ?_; repeat' (first | ((with_reducible refine Todo.to ?_); try simp only [↓rP, rT, rU, eI, eU, eB, eS, eBs, eL, eA, buildCells, sepsD, sepB, hdl, dvalX, DOp.kind, dval, frameFrom, dBin, dInt, dStr, dBeq, dUn, dLoad, cellsAt, retV, retL, DR.val, fzT, fzVs, fzV, fz1, DV.immB, IntKind.bits, dCallP, viewVs, viewV, view1, capVL, capV, viewL, noMemV, noMem, elemsOf, dAppend, dAppz, dStore, DV.one, alive, freezeAt, fzLL, fzL, bRow, bU, cellsOf, setFrom, DV.isU, lenMax, lenCap, Nat.reduceEqDiff, Nat.reduceAdd, ↓reduceIte, reduceCtorEq, Nat.reduceSub, Int.reduceToNat, Int.reducePow, Nat.reducePow, Int.reduceLE, Int.reduceLT, Nat.reduceLeDiff, Nat.reduceLT, Int.reduceBEq, Int.reduceBNe, Int.reduceEq, Int.reduceNe, Int.reduceAdd, Int.reduceSub, Int.reduceMul, Int.reduceNeg, Int.reduceTDiv, Int.reduceTMod, Int.reduceMod, Int.reduceDiv, Nat.reduceMul, forall_const, implies_true, d_vm_machine_pop, k, TM_o, mRow_17, mRow_s17, mRow_len, TM_so, r, endT_normal, endT_ret, w, Nat.mul_one, i1, popV, popS, i2, List.length_drop, hcondQ]) | ((with_reducible refine And.intro ?_ ?_); · first | trivial | omega | (simp; done) | (simp; omega)) | ((first | ((with_reducible refine dwp_condI (t := ?_) ?_ (fun hcQ => ?_) (fun hcQ => ?_)); rotate_left; · rfl) | ((with_reducible refine dops_guardI (t := ?_) ?_ (fun hcQ => ?_) (fun hcQ => ?_)); rotate_left; · rfl)) <;> (have hn := hcQ; have hcondQ := hcQ) <;> (try simp only [decide_eq_true_eq, decide_eq_false_iff_not, beq_iff_eq, bne_iff_ne, ne_eq, Bool.and_eq_true, Bool.or_eq_true, Bool.not_eq_true, Bool.not_eq_false, beq_eq_false_iff_ne, bne_eq_false_iff_eq, Bool.not_eq_true', Bool.not_eq_false', Int.ofNat_lt, Int.ofNat_le, Bool.or_eq_false_iff, Bool.and_eq_false_imp, Decidable.not_not, gt_iff_lt, ge_iff_le] at hn) <;> (try (exfalso; omega)) <;> (refine Todo.of ?_)) | (((with_reducible refine dwp_condA ?_ ?_ ?_); · rfl) <;> (refine Todo.of ?_))))
  all_goals exact ⟨_, _, rfl, rfl⟩

def pushE (v : MS) : Int := if v.hi = 16 then 13 else 0
def pushS (v : MS) (x : Int) : MS := if v.hi = 16 then v else { v with raw := v.raw.set v.hi.toNat x, hi := v.hi + 1 }
noncomputable def s_push := specT TM (fun n : Int => [.int .i64 n]) fun v x => (okM v, .int .i64 (pushE v), pushS v x)
theorem s_push_run {hp t : List DObj} {n m : Nat} {v : MS} (k : Three hp n m) (a : Int) : s_push [.ptr n 1 0 0, .int .i64 a] (TM.put hp n m v ++ t) = ⟨okM v, .int .i64 (pushE v), TM.put hp n m (pushS v a) ++ t⟩ := specT_run TM_ok injL_int _ k a
theorem ok_push : OkH Try.prog 39 s_push := by
  refine OkH.mkT (ps := []) (hs := []) TM_ok trivial trivial m_vm_machine_push (fun _ => rfl) (fun _ _ _ => rfl) fun n m hp v a k h => ?_
  have r := h.r
  have := h.h1
  have := h.h0
  have w : IntKind.i64.wrap (v.hi + 1) = v.hi + 1 := wrap_i64_id (by omega)
  have r2 : ({ v with raw := v.raw.set v.hi.toNat a } : MS).raw.length = 16 := by simp [r]
  by_cases c : v.hi = 16
  · have c' : (v.hi == 16) = true := by simp [c]
    (have hcondQ := Bool.and_self; refine Todo.of ?_; repeat' (first | ((with_reducible refine Todo.to ?_); try simp only [↓rP, rT, rU, eI, eU, eB, eS, eBs, eL, eA, buildCells, sepsD, sepB, hdl, dvalX, DOp.kind, dval, frameFrom, dBin, dInt, dStr, dBeq, dUn, dLoad, cellsAt, retV, retL, DR.val, fzT, fzVs, fzV, fz1, DV.immB, IntKind.bits, dCallP, viewVs, viewV, view1, capVL, capV, viewL, noMemV, noMem, elemsOf, dAppend, dAppz, dStore, DV.one, alive, freezeAt, fzLL, fzL, bRow, bU, cellsOf, setFrom, DV.isU, lenMax, lenCap, Nat.reduceEqDiff, Nat.reduceAdd, ↓reduceIte, reduceCtorEq, Nat.reduceSub, Int.reduceToNat, Int.reducePow, Nat.reducePow, Int.reduceLE, Int.reduceLT, Nat.reduceLeDiff, Nat.reduceLT, Int.reduceBEq, Int.reduceBNe, Int.reduceEq, Int.reduceNe, Int.reduceAdd, Int.reduceSub, Int.reduceMul, Int.reduceNeg, Int.reduceTDiv, Int.reduceTMod, Int.reduceMod, Int.reduceDiv, Nat.reduceMul, forall_const, implies_true, d_vm_machine_push, k, TM_o, mRow_17, r, endT_normal, endT_ret, c', pushE, pushS, c, hcondQ]) | ((with_reducible refine And.intro ?_ ?_); · first | trivial | omega | (simp; done) | (simp; omega)) | ((first | ((with_reducible refine dwp_condI (t := ?_) ?_ (fun hcQ => ?_) (fun hcQ => ?_)); rotate_left; · rfl) | ((with_reducible refine dops_guardI (t := ?_) ?_ (fun hcQ => ?_) (fun hcQ => ?_)); rotate_left; · rfl)) <;> (have hn := hcQ; have hcondQ := hcQ) <;> (try simp only [decide_eq_true_eq, decide_eq_false_iff_not, beq_iff_eq, bne_iff_ne, ne_eq, Bool.and_eq_true, Bool.or_eq_true, Bool.not_eq_true, Bool.not_eq_false, beq_eq_false_iff_ne, bne_eq_false_iff_eq, Bool.not_eq_true', Bool.not_eq_false', Int.ofNat_lt, Int.ofNat_le, Bool.or_eq_false_iff, Bool.and_eq_false_imp, Decidable.not_not, gt_iff_lt, ge_iff_le] at hn) <;> (try (exfalso; omega)) <;> (refine Todo.of ?_)) | (((with_reducible refine dwp_condA ?_ ?_ ?_); · rfl) <;> (refine Todo.of ?_))))
    all_goals exact ⟨_, _, rfl, rfl⟩
  · have c' : (v.hi == 16) = false := by simp [c]
    have i1 := mRow_si (m := m) r v.hi.toNat (by omega) a
    have i2 : 0 ≤ v.hi ∧ v.hi < 16 := by omega
    have i3 : 1 + v.hi.toNat + 1 ≤ 20 := by omega
    (have hcondQ := Bool.and_self; refine Todo.of ?_; repeat' (first | ((with_reducible refine Todo.to ?_); try simp only [↓rP, rT, rU, eI, eU, eB, eS, eBs, eL, eA, buildCells, sepsD, sepB, hdl, dvalX, DOp.kind, dval, frameFrom, dBin, dInt, dStr, dBeq, dUn, dLoad, cellsAt, retV, retL, DR.val, fzT, fzVs, fzV, fz1, DV.immB, IntKind.bits, dCallP, viewVs, viewV, view1, capVL, capV, viewL, noMemV, noMem, elemsOf, dAppend, dAppz, dStore, DV.one, alive, freezeAt, fzLL, fzL, bRow, bU, cellsOf, setFrom, DV.isU, lenMax, lenCap, Nat.reduceEqDiff, Nat.reduceAdd, ↓reduceIte, reduceCtorEq, Nat.reduceSub, Int.reduceToNat, Int.reducePow, Nat.reducePow, Int.reduceLE, Int.reduceLT, Nat.reduceLeDiff, Nat.reduceLT, Int.reduceBEq, Int.reduceBNe, Int.reduceEq, Int.reduceNe, Int.reduceAdd, Int.reduceSub, Int.reduceMul, Int.reduceNeg, Int.reduceTDiv, Int.reduceTMod, Int.reduceMod, Int.reduceDiv, Nat.reduceMul, forall_const, implies_true, d_vm_machine_push, k, TM_o, mRow_17, mRow_s17, mRow_len, TM_so, r, r2, endT_normal, endT_ret, c', pushE, pushS, c, w, Nat.mul_one, i1, i2, i3, hcondQ]) | ((with_reducible refine And.intro ?_ ?_); · first | trivial | omega | (simp; done) | (simp; omega)) | ((first | ((with_reducible refine dwp_condI (t := ?_) ?_ (fun hcQ => ?_) (fun hcQ => ?_)); rotate_left; · rfl) | ((with_reducible refine dops_guardI (t := ?_) ?_ (fun hcQ => ?_) (fun hcQ => ?_)); rotate_left; · rfl)) <;> (have hn := hcQ; have hcondQ := hcQ) <;> (try simp only [decide_eq_true_eq, decide_eq_false_iff_not, beq_iff_eq, bne_iff_ne, ne_eq, Bool.and_eq_true, Bool.or_eq_true, Bool.not_eq_true, Bool.not_eq_false, beq_eq_false_iff_ne, bne_eq_false_iff_eq, Bool.not_eq_true', Bool.not_eq_false', Int.ofNat_lt, Int.ofNat_le, Bool.or_eq_false_iff, Bool.and_eq_false_imp, Decidable.not_not, gt_iff_lt, ge_iff_le] at hn) <;> (try (exfalso; omega)) <;> (refine Todo.of ?_)) | (((with_reducible refine dwp_condA ?_ ?_ ?_); · rfl) <;> (refine Todo.of ?_))))
    all_goals exact ⟨_, _, rfl, rfl⟩

theorem injL_ii : InjL (fun x : Int × Int => [DV.int .i64 x.1, .int .i64 x.2]) := fun x y h => by
  obtain ⟨a, b⟩ := x; obtain ⟨c, d⟩ := y; simp at h; simp [h]
def thereF (v : MS) (a b : Int) : Bool := decide (a ≤ (v.cells.length : Int) - b)
noncomputable def s_there := specT TM (fun x : Int × Int => [.int .i64 x.1, .int .i64 x.2]) fun v x => (okM v ∧ 0 ≤ x.2 ∧ x.2 ≤ 8, .bool (thereF v x.1 x.2), v)
theorem s_there_run {hp t : List DObj} {n m : Nat} {v : MS} (k : Three hp n m) (a b : Int) : s_there [.ptr n 1 0 0, .int .i64 a, .int .i64 b] (TM.put hp n m v ++ t) = ⟨okM v ∧ 0 ≤ b ∧ b ≤ 8, .bool (thereF v a b), TM.put hp n m v ++ t⟩ := specT_run TM_ok injL_ii _ k (a, b)
theorem ok_there : OkH Try.prog 50 s_there := by
  refine OkH.mkT (ps := []) (hs := []) TM_ok trivial trivial m_vm_machine_there (fun _ => rfl) (fun _ _ _ => rfl) fun n m hp v a k h => ?_
  obtain ⟨a, b⟩ := a
  obtain ⟨h, h2⟩ := h
  simp only at h2
  have r := h.r
  have := h.c
  have w : IntKind.i64.wrap ((v.cells.length : Int) - b) = (v.cells.length : Int) - b := wrap_i64_id (by omega)
  (have hcondQ := Bool.and_self; refine Todo.of ?_; repeat' (first | ((with_reducible refine Todo.to ?_); try simp only [↓rP, rT, rU, eI, eU, eB, eS, eBs, eL, eA, buildCells, sepsD, sepB, hdl, dvalX, DOp.kind, dval, frameFrom, dBin, dInt, dStr, dBeq, dUn, dLoad, cellsAt, retV, retL, DR.val, fzT, fzVs, fzV, fz1, DV.immB, IntKind.bits, dCallP, viewVs, viewV, view1, capVL, capV, viewL, noMemV, noMem, elemsOf, dAppend, dAppz, dStore, DV.one, alive, freezeAt, fzLL, fzL, bRow, bU, cellsOf, setFrom, DV.isU, lenMax, lenCap, Nat.reduceEqDiff, Nat.reduceAdd, ↓reduceIte, reduceCtorEq, Nat.reduceSub, Int.reduceToNat, Int.reducePow, Nat.reducePow, Int.reduceLE, Int.reduceLT, Nat.reduceLeDiff, Nat.reduceLT, Int.reduceBEq, Int.reduceBNe, Int.reduceEq, Int.reduceNe, Int.reduceAdd, Int.reduceSub, Int.reduceMul, Int.reduceNeg, Int.reduceTDiv, Int.reduceTMod, Int.reduceMod, Int.reduceDiv, Nat.reduceMul, forall_const, implies_true, d_vm_machine_there, k, TM_o, TM_c, il_len, mRow_0, mRow_len, r, endT_normal, endT_ret, w, thereF, hcondQ]) | ((with_reducible refine And.intro ?_ ?_); · first | trivial | omega | (simp; done) | (simp; omega)) | ((first | ((with_reducible refine dwp_condI (t := ?_) ?_ (fun hcQ => ?_) (fun hcQ => ?_)); rotate_left; · rfl) | ((with_reducible refine dops_guardI (t := ?_) ?_ (fun hcQ => ?_) (fun hcQ => ?_)); rotate_left; · rfl)) <;> (have hn := hcQ; have hcondQ := hcQ) <;> (try simp only [decide_eq_true_eq, decide_eq_false_iff_not, beq_iff_eq, bne_iff_ne, ne_eq, Bool.and_eq_true, Bool.or_eq_true, Bool.not_eq_true, Bool.not_eq_false, beq_eq_false_iff_ne, bne_eq_false_iff_eq, Bool.not_eq_true', Bool.not_eq_false', Int.ofNat_lt, Int.ofNat_le, Bool.or_eq_false_iff, Bool.and_eq_false_imp, Decidable.not_not, gt_iff_lt, ge_iff_le] at hn) <;> (try (exfalso; omega)) <;> (refine Todo.of ?_)) | (((with_reducible refine dwp_condA ?_ ?_ ?_); · rfl) <;> (refine Todo.of ?_))))
  all_goals exact ⟨_, _, rfl, rfl⟩
end Go.Proofs.Ytjgefhgkinocmaa
