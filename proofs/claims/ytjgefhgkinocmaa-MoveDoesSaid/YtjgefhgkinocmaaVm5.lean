/- The machine of the program: a run. -/
import Derived.Test.YtjgefhgkinocmaaVm4
set_option linter.all false
set_option maxRecDepth 20000
namespace Go.Proofs.Ytjgefhgkinocmaa
open Go.Nk

theorem tr_in (b : Bool) : in64 (tr b) := by cases b <;> simp [tr, in64]
theorem unF_in (op a : Int) : in64 (unF op a).1 := by
  unfold unF
  split
  · exact w64_in _
  · split
    · exact tr_in _
    · simp [in64]
theorem numF_in {op a b : Int} (ha : in64 a) (hb : in64 b) : in64 (numF op a b).1 := by
  unfold numF
  split
  · exact w64_in _
  · split
    · exact w64_in _
    · split
      · exact w64_in _
      · split
        · simp [in64]
        · rename_i h0
          split
          · exact w64_in _
          · exact tmod_in ha hb h0
theorem binF_in {op a b : Int} (ha : in64 a) (hb : in64 b) : in64 (binF op a b).1 := by
  unfold binF
  split
  · exact numF_in ha hb
  · split
    · exact tr_in _
    · simp [in64]
theorem okM_push {v : MS} {x : Int} (h : okM v) (hx : in64 x) : okM (pushS v x) := by
  unfold pushS
  split
  · exact h
  · rename_i hne
    refine ⟨by simp [h.r], by have := h.h0; simp only; omega, by have := h.h1; simp only; omega, h.p0, h.p1, h.u0, h.u1, h.c, fun y hy => ?_, h.ci⟩
    rcases List.mem_or_eq_of_mem_set hy with hy | rfl
    · exact h.ri y hy
    · exact hx
theorem okM_cells {v : MS} {i : Nat} {x : Int} (h : okM v) (hx : in64 x) : okM { v with cells := v.cells.set i x } := by
  refine ⟨h.r, h.h0, h.h1, h.p0, h.p1, h.u0, h.u1, by simpa using h.c, h.ri, fun y hy => ?_⟩
  rcases List.mem_or_eq_of_mem_set hy with hy | rfl
  · exact h.ci y hy
  · exact hx
theorem okM_pc {v : MS} {x : Int} (h : okM v) (h0 : 0 ≤ x) (h1 : x ≤ 1000000000) : okM { v with pc := x } := ⟨h.r, h.h0, h.h1, h0, h1, h.u0, h.u1, h.c, h.ri, h.ci⟩
theorem okM_used {v : MS} {x : Int} (h : okM v) (h0 : 0 ≤ x) (h1 : x ≤ 1000000000) : okM { v with used := x } := ⟨h.r, h.h0, h.h1, h.p0, h.p1, h0, h1, h.c, h.ri, h.ci⟩
theorem cell_in {v : MS} (h : okM v) (i : Nat) : in64 (v.cells.getD i 0) := by
  rw [List.getD_eq_getElem?_getD]
  cases e : v.cells[i]? with
  | none => simp [in64]
  | some x => exact h.ci x (List.mem_of_getElem? e)

/-- What an instruction leaves: right again; the place; what was used; so many cells. -/
structure After (v u : MS) (p : Int) : Prop where
  ok : okM u
  pc : u.pc ≤ p
  used : u.used = v.used
  len : u.cells.length = v.cells.length
theorem pushS_pc (v : MS) (x : Int) : (pushS v x).pc = v.pc := by unfold pushS; split <;> rfl
theorem pushS_used (v : MS) (x : Int) : (pushS v x).used = v.used := by unfold pushS; split <;> rfl
theorem pushS_cells (v : MS) (x : Int) : (pushS v x).cells = v.cells := by unfold pushS; split <;> rfl
theorem after_push {v : MS} {x : Int} (h : okM v) (hx : in64 x) : After v (pushS v x) v.pc := ⟨okM_push h hx, by rw [pushS_pc]; exact Int.le_refl _, pushS_used _ _, by rw [pushS_cells]⟩
theorem after_get {v : MS} {x : Ins} (h : okM v) : After v (getR v x).2 v.pc := by
  unfold getR
  split
  · exact ⟨h, Int.le_refl _, rfl, rfl⟩
  · rename_i hc
    have hp := okM_pop h (by omega)
    split
    · exact ⟨hp, Int.le_refl _, rfl, rfl⟩
    · have := after_push hp (cell_in h (x.a.toNat + (popV v).toNat))
      exact ⟨this.ok, this.pc, this.used, this.len⟩
theorem after_put {v : MS} {x : Ins} (h : okM v) : After v (putR v x).2 v.pc := by
  unfold putR
  split
  · exact ⟨h, Int.le_refl _, rfl, rfl⟩
  · rename_i hc
    have hp := okM_pop h (by omega)
    have hp2 := okM_pop hp (by simp only [popS]; omega)
    split
    · exact ⟨hp2, Int.le_refl _, rfl, rfl⟩
    · exact ⟨okM_cells (v := popS (popS v)) hp2 (popV_in hp), Int.le_refl _, rfl, by simp⟩
theorem after_move {v : MS} {x : Ins} (h : okM v) : After v (moveR v x).2 v.pc := by
  unfold moveR
  split
  · exact ⟨h, Int.le_refl _, rfl, rfl⟩
  · split
    · exact after_push h (cell_in h _)
    · split
      · exact ⟨h, Int.le_refl _, rfl, rfl⟩
      · rename_i hc
        have hp := okM_pop h (by omega)
        exact ⟨okM_cells (v := popS v) hp (popV_in h), Int.le_refl _, rfl, by simp⟩
theorem operV_in {v : MS} {x : Ins} (h : okM v) (h1 : ¬ v.hi < (if x.o = 4 then 1 else 2)) : in64 (operV v x).1 := by
  unfold operV
  split
  · exact unF_in _ _
  · rename_i c
    rw [if_neg c] at h1
    exact binF_in (popV_pop_in h (by omega)) (popV_in h)
theorem operS_ok {v : MS} {x : Ins} (h : okM v) (h1 : ¬ v.hi < (if x.o = 4 then 1 else 2)) : After v (operS v x) v.pc := by
  unfold operS
  split
  · rename_i c
    rw [if_pos c] at h1
    exact ⟨okM_pop h (by omega), Int.le_refl _, rfl, rfl⟩
  · rename_i c
    rw [if_neg c] at h1
    exact ⟨okM_pop (okM_pop h (by omega)) (by simp only [popS]; omega), Int.le_refl _, rfl, rfl⟩
theorem after_oper {v : MS} {x : Ins} (h : okM v) : After v (operR v x).2 v.pc := by
  unfold operR
  by_cases hc : v.hi < (if x.o = 4 then 1 else 2)
  · rw [if_pos hc]; exact ⟨h, Int.le_refl _, rfl, rfl⟩
  · rw [if_neg hc]
    have hs := operS_ok h hc
    split
    · exact hs
    · have := after_push hs.ok (operV_in h hc)
      exact ⟨this.ok, Int.le_trans this.pc hs.pc, this.used.trans hs.used, this.len.trans hs.len⟩
theorem after_do {v : MS} {x : Ins} (h : okM v) (hp : v.pc < 1000000) (hn : in64 x.n) : After v (doR v x).2 1000000 := by
  unfold doR
  have p0 := h.p0
  have hu : okM { v with pc := v.pc + 1 } := okM_pc h (by omega) (by omega)
  have lift : ∀ {u : MS} {p : Int}, p ≤ 1000000 → After { v with pc := v.pc + 1 } u p → After v u 1000000 := fun hp a => ⟨a.ok, Int.le_trans a.pc hp, a.used, a.len⟩
  split
  · exact ⟨h, by simp only; omega, rfl, rfl⟩
  · rename_i hr
    have hr' : rightF x = true := by simpa using hr
    have ra := right_a hr'
    dsimp only
    split
    · exact lift (p := v.pc + 1) (by omega) (after_push hu hn)
    · split
      · exact lift (p := v.pc + 1) (by omega) (after_move hu)
      · split
        · exact lift (p := v.pc + 1) (by omega) (after_oper hu)
        · split
          · exact ⟨okM_pc h (by omega) (by omega), by simp only; omega, rfl, rfl⟩
          · split
            · split
              · exact ⟨hu, by simp only; omega, rfl, rfl⟩
              · rename_i hc
                have hc' : ¬ v.hi < 1 := hc
                have hq := okM_pop hu (by simp only; omega)
                split
                · exact ⟨okM_pc hq (by omega) (by omega), by simp only; omega, rfl, rfl⟩
                · exact ⟨hq, by simp only [popS]; omega, rfl, rfl⟩
            · split
              · exact lift (p := v.pc + 1) (by omega) (after_get hu)
              · split
                · exact lift (p := v.pc + 1) (by omega) (after_put hu)
                · exact ⟨hu, by simp only; omega, rfl, rfl⟩

def runN (code : List Ins) : Nat → MS → Int × MS
  | 0, v => if (code.length : Int) ≤ v.pc then (13, v) else (17, v)
  | k + 1, v => if (code.length : Int) ≤ v.pc then (13, v) else
    let r := doR { v with used := v.used + 1 } (code.getD v.pc.toNat default)
    if r.1 ≠ 0 ∨ (code.getD v.pc.toNat default).o = 10 then r else runN code k r.2
theorem injL_run : InjL (fun x : List Ins × Int => [DV.sl (x.1.map cIns), .int .i64 x.2]) := fun x y h => by
  obtain ⟨a, b⟩ := x; obtain ⟨c, d⟩ := y
  simp only [List.cons.injEq, DV.sl.injEq, DV.int.injEq, true_and, and_true] at h
  obtain ⟨h1, rfl⟩ := h
  rw [List.map_inj_right (fun x y e => cIns_inj x y e) |>.1 h1]
structure okRun (v : MS) (x : List Ins × Int) : Prop where
  ok : okM v
  pc : v.pc ≤ 1000000
  used : v.used = 0
  len : x.1.length ≤ 1000000
  fuel : x.2 ≤ 1000000
  ins : ∀ i ∈ x.1, in64 i.n
noncomputable def s_run := specT TM (fun x : List Ins × Int => [.sl (x.1.map cIns), .int .i64 x.2]) fun v x => (okRun v x, .int .i64 (runN x.1 x.2.toNat v).1, (runN x.1 x.2.toNat v).2)
theorem s_run_run {hp t : List DObj} {n m : Nat} {v : MS} (k : Three hp n m) (x : List Ins × Int) : s_run [.ptr n 1 0 0, .sl (x.1.map cIns), .int .i64 x.2] (TM.put hp n m v ++ t) = ⟨okRun v x, .int .i64 (runN x.1 x.2.toNat v).1, TM.put hp n m (runN x.1 x.2.toNat v).2 ++ t⟩ := specT_run TM_ok injL_run _ k x
theorem ok_run : OkH Try.prog 32 s_run := by
  refine OkH.mkT (ps := []) (hs := [(35, s_do)]) TM_ok trivial ⟨ok_do, trivial⟩ m_vm_machine_run (fun _ => rfl) (fun _ _ _ => rfl) fun n m hp v x k h => ?_
  obtain ⟨code, fuel⟩ := x
  obtain ⟨h, hpc, hu0, hlen, hfuel, hins⟩ := h
  simp only at hlen hfuel hins ⊢
  (have hcondQ := Bool.and_self; refine Todo.of ?_; repeat' (first | ((with_reducible refine Todo.to ?_); try simp only [↓rP, rT, rU, eI, eU, eB, eS, eBs, eL, eA, buildCells, sepsD, sepB, hdl, dvalX, DOp.kind, dval, frameFrom, dBin, dInt, dStr, dBeq, dUn, dLoad, cellsAt, retV, retL, DR.val, fzT, fzVs, fzV, fz1, DV.immB, IntKind.bits, dCallP, viewVs, viewV, view1, capVL, capV, viewL, noMemV, noMem, elemsOf, dAppend, dAppz, dStore, DV.one, alive, freezeAt, fzLL, fzL, bRow, bU, cellsOf, setFrom, DV.isU, lenMax, lenCap, Nat.reduceEqDiff, Nat.reduceAdd, ↓reduceIte, reduceCtorEq, Nat.reduceSub, Int.reduceToNat, Int.reducePow, Nat.reducePow, Int.reduceLE, Int.reduceLT, Nat.reduceLeDiff, Nat.reduceLT, Int.reduceBEq, Int.reduceBNe, Int.reduceEq, Int.reduceNe, Int.reduceAdd, Int.reduceSub, Int.reduceMul, Int.reduceNeg, Int.reduceTDiv, Int.reduceTMod, Int.reduceMod, Int.reduceDiv, Nat.reduceMul, forall_const, implies_true, d_vm_machine_run, hcondQ]) | ((with_reducible refine And.intro ?_ ?_); · first | trivial | omega | (simp; done) | (simp; omega)) | ((first | ((with_reducible refine dwp_condI (t := ?_) ?_ (fun hcQ => ?_) (fun hcQ => ?_)); rotate_left; · rfl) | ((with_reducible refine dops_guardI (t := ?_) ?_ (fun hcQ => ?_) (fun hcQ => ?_)); rotate_left; · rfl)) <;> (have hn := hcQ; have hcondQ := hcQ) <;> (try simp only [decide_eq_true_eq, decide_eq_false_iff_not, beq_iff_eq, bne_iff_ne, ne_eq, Bool.and_eq_true, Bool.or_eq_true, Bool.not_eq_true, Bool.not_eq_false, beq_eq_false_iff_ne, bne_eq_false_iff_eq, Bool.not_eq_true', Bool.not_eq_false', Int.ofNat_lt, Int.ofNat_le, Bool.or_eq_false_iff, Bool.and_eq_false_imp, Decidable.not_not, gt_iff_lt, ge_iff_le] at hn) <;> (try (exfalso; omega)) <;> (refine Todo.of ?_)) | (((with_reducible refine dwp_condA ?_ ?_ ?_); · rfl) <;> (refine Todo.of ?_))))
  refine dwp_loop (fun x : MS × List DObj => ⟨[(0, .ptr n 1 0 0), (1, .sl (code.map cIns)), (2, .int .i64 fuel)], TM.put hp n m x.1 ++ x.2⟩)
    (fun x => okM x.1 ∧ x.1.pc ≤ 1000000 ∧ (x.1.used ≤ fuel ∨ x.1.used = 0) ∧ runN code (fuel - x.1.used).toNat x.1 = runN code fuel.toNat v) (fun x => (fuel - x.1.used).toNat) (v, []) (by exact trivial) ?_ ⟨h, hpc, .inr hu0, by rw [hu0, Int.sub_zero]⟩ fun x hx => ?_
  · simp only [DS.cut, List.map_cons, List.map_nil, get_cons, Nat.reduceEqDiff, ↓reduceIte, Nat.succ_ne_self]
  obtain ⟨u, t⟩ := x
  obtain ⟨hu, hp', hus, hR⟩ := hx
  simp only at hu hp' hus hR ⊢
  have r := hu.r
  have p0 := hu.p0
  have u0 := hu.u0
  by_cases c1 : (code.length : Int) ≤ u.pc
  · have e : runN code (fuel - u.used).toNat u = (13, u) := by cases (fuel - u.used).toNat <;> simp [runN, c1]
    rw [← hR, e]
    (have hcondQ := Bool.and_self; refine Todo.of ?_; repeat' (first | ((with_reducible refine Todo.to ?_); try simp only [↓rP, rT, rU, eI, eU, eB, eS, eBs, eL, eA, buildCells, sepsD, sepB, hdl, dvalX, DOp.kind, dval, frameFrom, dBin, dInt, dStr, dBeq, dUn, dLoad, cellsAt, retV, retL, DR.val, fzT, fzVs, fzV, fz1, DV.immB, IntKind.bits, dCallP, viewVs, viewV, view1, capVL, capV, viewL, noMemV, noMem, elemsOf, dAppend, dAppz, dStore, DV.one, alive, freezeAt, fzLL, fzL, bRow, bU, cellsOf, setFrom, DV.isU, lenMax, lenCap, Nat.reduceEqDiff, Nat.reduceAdd, ↓reduceIte, reduceCtorEq, Nat.reduceSub, Int.reduceToNat, Int.reducePow, Nat.reducePow, Int.reduceLE, Int.reduceLT, Nat.reduceLeDiff, Nat.reduceLT, Int.reduceBEq, Int.reduceBNe, Int.reduceEq, Int.reduceNe, Int.reduceAdd, Int.reduceSub, Int.reduceMul, Int.reduceNeg, Int.reduceTDiv, Int.reduceTMod, Int.reduceMod, Int.reduceDiv, Nat.reduceMul, forall_const, implies_true, d_vm_machine_run, k, TM_o, mRow_18, r, List.append_assoc, Nat.add_zero, Duo.put_len, Duo.put_lenA, endT_normal, endT_ret, dSlice, dBound, List.length_drop, Nat.mul_one, List.length_map, c1, hcondQ]) | ((with_reducible refine And.intro ?_ ?_); · first | trivial | omega | (simp; done) | (simp; omega)) | ((first | ((with_reducible refine dwp_condI (t := ?_) ?_ (fun hcQ => ?_) (fun hcQ => ?_)); rotate_left; · rfl) | ((with_reducible refine dops_guardI (t := ?_) ?_ (fun hcQ => ?_) (fun hcQ => ?_)); rotate_left; · rfl)) <;> (have hn := hcQ; have hcondQ := hcQ) <;> (try simp only [decide_eq_true_eq, decide_eq_false_iff_not, beq_iff_eq, bne_iff_ne, ne_eq, Bool.and_eq_true, Bool.or_eq_true, Bool.not_eq_true, Bool.not_eq_false, beq_eq_false_iff_ne, bne_eq_false_iff_eq, Bool.not_eq_true', Bool.not_eq_false', Int.ofNat_lt, Int.ofNat_le, Bool.or_eq_false_iff, Bool.and_eq_false_imp, Decidable.not_not, gt_iff_lt, ge_iff_le] at hn) <;> (try (exfalso; omega)) <;> (refine Todo.of ?_)) | (((with_reducible refine dwp_condA ?_ ?_ ?_); · rfl) <;> (refine Todo.of ?_))))
    (all_goals (first | exact ⟨_, _, rfl, rfl⟩ | (refine ⟨?_, _, _, rfl, ?_⟩ <;> grind [runN]) | (refine ⟨_, _, rfl, ?_⟩; grind [runN]) | skip))
  by_cases c2 : fuel ≤ u.used
  · have e0 : (fuel - u.used).toNat = 0 := by omega
    have e : runN code (fuel - u.used).toNat u = (17, u) := by rw [e0]; simp [runN, c1]
    rw [← hR, e]
    (have hcondQ := Bool.and_self; refine Todo.of ?_; repeat' (first | ((with_reducible refine Todo.to ?_); try simp only [↓rP, rT, rU, eI, eU, eB, eS, eBs, eL, eA, buildCells, sepsD, sepB, hdl, dvalX, DOp.kind, dval, frameFrom, dBin, dInt, dStr, dBeq, dUn, dLoad, cellsAt, retV, retL, DR.val, fzT, fzVs, fzV, fz1, DV.immB, IntKind.bits, dCallP, viewVs, viewV, view1, capVL, capV, viewL, noMemV, noMem, elemsOf, dAppend, dAppz, dStore, DV.one, alive, freezeAt, fzLL, fzL, bRow, bU, cellsOf, setFrom, DV.isU, lenMax, lenCap, Nat.reduceEqDiff, Nat.reduceAdd, ↓reduceIte, reduceCtorEq, Nat.reduceSub, Int.reduceToNat, Int.reducePow, Nat.reducePow, Int.reduceLE, Int.reduceLT, Nat.reduceLeDiff, Nat.reduceLT, Int.reduceBEq, Int.reduceBNe, Int.reduceEq, Int.reduceNe, Int.reduceAdd, Int.reduceSub, Int.reduceMul, Int.reduceNeg, Int.reduceTDiv, Int.reduceTMod, Int.reduceMod, Int.reduceDiv, Nat.reduceMul, forall_const, implies_true, d_vm_machine_run, k, TM_o, mRow_18, mRow_19, r, List.append_assoc, Nat.add_zero, Duo.put_len, Duo.put_lenA, endT_normal, endT_ret, dSlice, dBound, List.length_drop, Nat.mul_one, List.length_map, c1, c2, hcondQ]) | ((with_reducible refine And.intro ?_ ?_); · first | trivial | omega | (simp; done) | (simp; omega)) | ((first | ((with_reducible refine dwp_condI (t := ?_) ?_ (fun hcQ => ?_) (fun hcQ => ?_)); rotate_left; · rfl) | ((with_reducible refine dops_guardI (t := ?_) ?_ (fun hcQ => ?_) (fun hcQ => ?_)); rotate_left; · rfl)) <;> (have hn := hcQ; have hcondQ := hcQ) <;> (try simp only [decide_eq_true_eq, decide_eq_false_iff_not, beq_iff_eq, bne_iff_ne, ne_eq, Bool.and_eq_true, Bool.or_eq_true, Bool.not_eq_true, Bool.not_eq_false, beq_eq_false_iff_ne, bne_eq_false_iff_eq, Bool.not_eq_true', Bool.not_eq_false', Int.ofNat_lt, Int.ofNat_le, Bool.or_eq_false_iff, Bool.and_eq_false_imp, Decidable.not_not, gt_iff_lt, ge_iff_le] at hn) <;> (try (exfalso; omega)) <;> (refine Todo.of ?_)) | (((with_reducible refine dwp_condA ?_ ?_ ?_); · rfl) <;> (refine Todo.of ?_))))
    (all_goals (first | exact ⟨_, _, rfl, rfl⟩ | (refine ⟨?_, _, _, rfl, ?_⟩ <;> grind [runN]) | (refine ⟨_, _, rfl, ?_⟩; grind [runN]) | skip))
  obtain ⟨q, hq⟩ : ∃ q, (fuel - u.used).toNat = q + 1 := ⟨(fuel - u.used).toNat - 1, by omega⟩
  have hx : u.pc.toNat < code.length := by omega
  have hrow := getD_map cIns code u.pc.toNat hx
  have w : IntKind.i64.wrap (u.used + 1) = u.used + 1 := wrap_i64_id (by omega)
  have hk : okM { u with used := u.used + 1 } := okM_used hu (by omega) (by omega)
  have hin : in64 (code.getD u.pc.toNat default).n := hins _ (by rw [List.getD_eq_getElem?_getD, List.getElem?_eq_getElem hx]; exact List.getElem_mem hx)
  have ha := after_do (x := code.getD u.pc.toNat default) hk (by simp only; omega) hin
  rw [hq] at hR
  simp only [runN, c1, if_false] at hR
  have hb : 0 ≤ u.pc ∧ u.pc < (code.length : Int) := by omega
  generalize hX : code.getD u.pc.toNat default = X at hrow ha hR hin
  (have hcondQ := Bool.and_self; refine Todo.of ?_; repeat' (first | ((with_reducible refine Todo.to ?_); try simp only [↓rP, rT, rU, eI, eU, eB, eS, eBs, eL, eA, buildCells, sepsD, sepB, hdl, dvalX, DOp.kind, dval, frameFrom, dBin, dInt, dStr, dBeq, dUn, dLoad, cellsAt, retV, retL, DR.val, fzT, fzVs, fzV, fz1, DV.immB, IntKind.bits, dCallP, viewVs, viewV, view1, capVL, capV, viewL, noMemV, noMem, elemsOf, dAppend, dAppz, dStore, DV.one, alive, freezeAt, fzLL, fzL, bRow, bU, cellsOf, setFrom, DV.isU, lenMax, lenCap, Nat.reduceEqDiff, Nat.reduceAdd, ↓reduceIte, reduceCtorEq, Nat.reduceSub, Int.reduceToNat, Int.reducePow, Nat.reducePow, Int.reduceLE, Int.reduceLT, Nat.reduceLeDiff, Nat.reduceLT, Int.reduceBEq, Int.reduceBNe, Int.reduceEq, Int.reduceNe, Int.reduceAdd, Int.reduceSub, Int.reduceMul, Int.reduceNeg, Int.reduceTDiv, Int.reduceTMod, Int.reduceMod, Int.reduceDiv, Nat.reduceMul, forall_const, implies_true, d_vm_machine_run, k, TM_o, TM_so, mRow_18, mRow_19, mRow_s19, mRow_len, r, List.append_assoc, Nat.add_zero, Duo.put_len, Duo.put_lenA, endT_normal, endT_ret, dSlice, dBound, List.length_drop, Nat.mul_one, List.length_map, c1, c2, hb, hrow, w, Duo.get_bt, Duo.set_bt, s_do_run , hcondQ]) | ((with_reducible refine And.intro ?_ ?_); · first | trivial | exact ⟨hk, by omega⟩ | omega | (simp; done) | (simp; omega)) | ((first | ((with_reducible refine dwp_condI (t := ?_) ?_ (fun hcQ => ?_) (fun hcQ => ?_)); rotate_left; · rfl) | ((with_reducible refine dops_guardI (t := ?_) ?_ (fun hcQ => ?_) (fun hcQ => ?_)); rotate_left; · rfl)) <;> (have hn := hcQ; have hcondQ := hcQ) <;> (try simp only [decide_eq_true_eq, decide_eq_false_iff_not, beq_iff_eq, bne_iff_ne, ne_eq, Bool.and_eq_true, Bool.or_eq_true, Bool.not_eq_true, Bool.not_eq_false, beq_eq_false_iff_ne, bne_eq_false_iff_eq, Bool.not_eq_true', Bool.not_eq_false', Int.ofNat_lt, Int.ofNat_le, Bool.or_eq_false_iff, Bool.and_eq_false_imp, Decidable.not_not, gt_iff_lt, ge_iff_le] at hn) <;> (try (exfalso; omega)) <;> (refine Todo.of ?_)) | (((with_reducible refine dwp_condA ?_ ?_ ?_); · rfl) <;> (refine Todo.of ?_))))
  · rw [if_pos (by grind)] at hR; rw [← hR]; exact ⟨rfl, _, _, rfl, rfl⟩
  · rw [if_pos (by grind)] at hR; rw [← hR]; exact ⟨rfl, _, _, rfl, rfl⟩
  · rw [if_neg (by grind)] at hR
    have hu2 := ha.used
    simp only at hu2
    have e2 : (fuel - (u.used + 1)).toNat = q := by omega
    simp only [DS.cut, List.map_cons, List.map_nil, get_cons, Nat.reduceEqDiff, ↓reduceIte, Nat.succ_ne_self]
    refine ⟨((doR { u with used := u.used + 1 } X).2, _), rfl, ⟨ha.ok, ha.pc, .inl (by rw [hu2]; omega), by rw [hu2, e2]; exact hR⟩, by rw [hu2]; omega⟩
end Go.Proofs.Ytjgefhgkinocmaa
