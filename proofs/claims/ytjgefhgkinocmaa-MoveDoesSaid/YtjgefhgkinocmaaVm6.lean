/- vm.Run. -/
import Derived.Test.YtjgefhgkinocmaaVm5
set_option linter.all false
set_option maxRecDepth 20000
namespace Go.Proofs.Ytjgefhgkinocmaa
open Go.Nk

@[reducible] def eIl (l : List Int) : DV := .sl (il l)
theorem inj_Il : Inj eIl := fun _ _ h => il_inj (by simpa [eIl] using h)
@[reducible] def eCode (l : List Ins) : DV := .sl (l.map cIns)
theorem inj_Code : Inj eCode := fun _ _ h => (List.map_inj_right (fun x y e => cIns_inj x y e)).1 (by simpa [eCode] using h)

theorem il_cons (x : Int) (y : List Int) : il (x :: y) = [.int .i64 x] :: il y := rfl
/-- A copy, of its own. -/
noncomputable def s_CloneH : List DV → List DObj → Res := fun a hp => ⟨∃ l : List Int, a = [eIl l] ∧ l.length ≤ 4294967296, match a with | [.sl es] => .own hp.length es.length 0 es.length | _ => .undef, match a with | [.sl es] => hp ++ [⟨.imm, 1, es⟩] | _ => []⟩
theorem s_CloneH_at (l : List Int) (hp : List DObj) : s_CloneH [.sl (il l)] hp = ⟨l.length ≤ 4294967296, .own hp.length l.length 0 l.length, hp ++ [⟨.imm, 1, il l⟩]⟩ := by
  unfold s_CloneH
  simp only [Res.mk.injEq, il_len, and_true]
  refine propext ⟨fun ⟨l', h1, h2⟩ => ?_, fun h => ⟨l, rfl, h⟩⟩
  have := il_inj (by simpa [eIl] using h1 : il l = il l')
  rw [this]; exact h2
theorem getL (hp : List DObj) (a : DObj) : (hp ++ [a])[hp.length]? = some a := by simp
theorem setL (hp : List DObj) (a b : DObj) : (hp ++ [a]).set hp.length b = hp ++ [b] := by
  rw [List.set_append_right _ _ (Nat.le_refl _)]; simp
theorem ok_CloneH : OkH Try.prog 18 s_CloneH := by
  refine OkH.mk (ps := []) (hs := []) (n := 1) trivial trivial m_slices_Clone_int64_int64 fun a hp h => ?_
  obtain ⟨l, rfl, hl⟩ := h
  refine ⟨rfl, ?_⟩
  have r := il_rows l
  have hb : l.length ≤ lenMax := hl
  rw [s_CloneH_at]
  cases l with
  | nil =>
    (have hcondQ := Bool.and_self; refine Todo.of ?_; repeat' (first | ((with_reducible refine Todo.to ?_); try simp only [↓rP, rT, rU, eI, eU, eB, eS, eBs, eL, eA, buildCells, sepsD, sepB, hdl, dvalX, DOp.kind, dval, frameFrom, dBin, dInt, dStr, dBeq, dUn, dLoad, cellsAt, retV, retL, DR.val, fzT, fzVs, fzV, fz1, DV.immB, IntKind.bits, dCallP, viewVs, viewV, view1, capVL, capV, viewL, noMemV, noMem, elemsOf, dAppend, dAppz, dStore, DV.one, alive, freezeAt, fzLL, fzL, bRow, bU, cellsOf, setFrom, DV.isU, lenMax, lenCap, Nat.reduceEqDiff, Nat.reduceAdd, ↓reduceIte, reduceCtorEq, Nat.reduceSub, Int.reduceToNat, Int.reducePow, Nat.reducePow, Int.reduceLE, Int.reduceLT, Nat.reduceLeDiff, Nat.reduceLT, Int.reduceBEq, Int.reduceBNe, Int.reduceEq, Int.reduceNe, Int.reduceAdd, Int.reduceSub, Int.reduceMul, Int.reduceNeg, Int.reduceTDiv, Int.reduceTMod, Int.reduceMod, Int.reduceDiv, Nat.reduceMul, forall_const, implies_true, d_slices_Clone_int64_int64, eIl, il, getL, setL, endH_normal, endH_ret , hcondQ]) | ((with_reducible refine And.intro ?_ ?_); · first | trivial | exact Nat.zero_le _ | omega | (simp; done) | (simp; omega)) | ((first | ((with_reducible refine dwp_condI (t := ?_) ?_ (fun hcQ => ?_) (fun hcQ => ?_)); rotate_left; · rfl) | ((with_reducible refine dops_guardI (t := ?_) ?_ (fun hcQ => ?_) (fun hcQ => ?_)); rotate_left; · rfl)) <;> (have hn := hcQ; have hcondQ := hcQ) <;> (try simp only [decide_eq_true_eq, decide_eq_false_iff_not, beq_iff_eq, bne_iff_ne, ne_eq, Bool.and_eq_true, Bool.or_eq_true, Bool.not_eq_true, Bool.not_eq_false, beq_eq_false_iff_ne, bne_eq_false_iff_eq, Bool.not_eq_true', Bool.not_eq_false', Int.ofNat_lt, Int.ofNat_le, Bool.or_eq_false_iff, Bool.and_eq_false_imp, Decidable.not_not, gt_iff_lt, ge_iff_le] at hn) <;> (try (exfalso; omega)) <;> (refine Todo.of ?_)) | (((with_reducible refine dwp_condA ?_ ?_ ?_); · rfl) <;> (refine Todo.of ?_))))
    all_goals first | exact Nat.zero_le _
  | cons x y =>
    have hb' : y.length + 1 ≤ lenMax := hb
    have r' := il_rows y
    have hb2 : y.length ≤ 4294967295 := by unfold lenMax at hb'; omega
    have tk : (il y).take y.length = il y := List.take_of_length_le (by rw [il_len]; exact Nat.le_refl _)
    (have hcondQ := Bool.and_self; refine Todo.of ?_; repeat' (first | ((with_reducible refine Todo.to ?_); try simp only [↓rP, rT, rU, eI, eU, eB, eS, eBs, eL, eA, buildCells, sepsD, sepB, hdl, dvalX, DOp.kind, dval, frameFrom, dBin, dInt, dStr, dBeq, dUn, dLoad, cellsAt, retV, retL, DR.val, fzT, fzVs, fzV, fz1, DV.immB, IntKind.bits, dCallP, viewVs, viewV, view1, capVL, capV, viewL, noMemV, noMem, elemsOf, dAppend, dAppz, dStore, DV.one, alive, freezeAt, fzLL, fzL, bRow, bU, cellsOf, setFrom, DV.isU, lenMax, lenCap, Nat.reduceEqDiff, Nat.reduceAdd, ↓reduceIte, reduceCtorEq, Nat.reduceSub, Int.reduceToNat, Int.reducePow, Nat.reducePow, Int.reduceLE, Int.reduceLT, Nat.reduceLeDiff, Nat.reduceLT, Int.reduceBEq, Int.reduceBNe, Int.reduceEq, Int.reduceNe, Int.reduceAdd, Int.reduceSub, Int.reduceMul, Int.reduceNeg, Int.reduceTDiv, Int.reduceTMod, Int.reduceMod, Int.reduceDiv, Nat.reduceMul, forall_const, implies_true, d_slices_Clone_int64_int64, eIl, il_cons, il_len, getL, setL, hb', r', endH_normal, endH_ret , hcondQ]) | ((with_reducible refine And.intro ?_ ?_); · first | trivial | exact ⟨hb', r'⟩ | omega | (simp; done) | (simp; omega)) | ((first | ((with_reducible refine dwp_condI (t := ?_) ?_ (fun hcQ => ?_) (fun hcQ => ?_)); rotate_left; · rfl) | ((with_reducible refine dops_guardI (t := ?_) ?_ (fun hcQ => ?_) (fun hcQ => ?_)); rotate_left; · rfl)) <;> (have hn := hcQ; have hcondQ := hcQ) <;> (try simp only [decide_eq_true_eq, decide_eq_false_iff_not, beq_iff_eq, bne_iff_ne, ne_eq, Bool.and_eq_true, Bool.or_eq_true, Bool.not_eq_true, Bool.not_eq_false, beq_eq_false_iff_ne, bne_eq_false_iff_eq, Bool.not_eq_true', Bool.not_eq_false', Int.ofNat_lt, Int.ofNat_le, Bool.or_eq_false_iff, Bool.and_eq_false_imp, Decidable.not_not, gt_iff_lt, ge_iff_le] at hn) <;> (try (exfalso; omega)) <;> (refine Todo.of ?_)) | (((with_reducible refine dwp_condA ?_ ?_ ?_); · rfl) <;> (refine Todo.of ?_))))
    all_goals first | exact Nat.zero_le _ | exact r' | exact tk | exact hb2 | exact Nat.le_refl _ | exact ⟨⟨r', hb2⟩, Nat.le_refl _⟩

noncomputable def s_CloneP : List DV → Prop × DV := spec1 eIl fun l => (l.length ≤ 4294967296, eIl l)
theorem s_CloneP_at (l : List Int) : s_CloneP [.sl (il l)] = (l.length ≤ 4294967296, .sl (il l)) := spec1_at inj_Il _ _
theorem ok_CloneP : OkP Try.prog 18 s_CloneP := by
  refine OkP.mk1 (ps := []) (hs := []) trivial trivial m_slices_Clone_int64_int64 fun l h => ?_
  cases l with
  | nil =>
    (have hcondQ := Bool.and_self; refine Todo.of ?_; repeat' (first | ((with_reducible refine Todo.to ?_); try simp only [↓rP, rT, rU, eI, eU, eB, eS, eBs, eL, eA, buildCells, sepsD, sepB, hdl, dvalX, DOp.kind, dval, frameFrom, dBin, dInt, dStr, dBeq, dUn, dLoad, cellsAt, retV, retL, DR.val, fzT, fzVs, fzV, fz1, DV.immB, IntKind.bits, dCallP, viewVs, viewV, view1, capVL, capV, viewL, noMemV, noMem, elemsOf, dAppend, dAppz, dStore, DV.one, alive, freezeAt, fzLL, fzL, bRow, bU, cellsOf, setFrom, DV.isU, lenMax, lenCap, Nat.reduceEqDiff, Nat.reduceAdd, ↓reduceIte, reduceCtorEq, Nat.reduceSub, Int.reduceToNat, Int.reducePow, Nat.reducePow, Int.reduceLE, Int.reduceLT, Nat.reduceLeDiff, Nat.reduceLT, Int.reduceBEq, Int.reduceBNe, Int.reduceEq, Int.reduceNe, Int.reduceAdd, Int.reduceSub, Int.reduceMul, Int.reduceNeg, Int.reduceTDiv, Int.reduceTMod, Int.reduceMod, Int.reduceDiv, Nat.reduceMul, forall_const, implies_true, d_slices_Clone_int64_int64, eIl, il, endP_normal, endP_ret , hcondQ]) | ((with_reducible refine And.intro ?_ ?_); · first | trivial | exact Nat.zero_le _ | omega | (simp; done) | (simp; omega)) | ((first | ((with_reducible refine dwp_condI (t := ?_) ?_ (fun hcQ => ?_) (fun hcQ => ?_)); rotate_left; · rfl) | ((with_reducible refine dops_guardI (t := ?_) ?_ (fun hcQ => ?_) (fun hcQ => ?_)); rotate_left; · rfl)) <;> (have hn := hcQ; have hcondQ := hcQ) <;> (try simp only [decide_eq_true_eq, decide_eq_false_iff_not, beq_iff_eq, bne_iff_ne, ne_eq, Bool.and_eq_true, Bool.or_eq_true, Bool.not_eq_true, Bool.not_eq_false, beq_eq_false_iff_ne, bne_eq_false_iff_eq, Bool.not_eq_true', Bool.not_eq_false', Int.ofNat_lt, Int.ofNat_le, Bool.or_eq_false_iff, Bool.and_eq_false_imp, Decidable.not_not, gt_iff_lt, ge_iff_le] at hn) <;> (try (exfalso; omega)) <;> (refine Todo.of ?_)) | (((with_reducible refine dwp_condA ?_ ?_ ?_); · rfl) <;> (refine Todo.of ?_))))
    all_goals first | exact Nat.zero_le _
  | cons x y =>
    have hb' : y.length + 1 ≤ lenMax := h
    have r' := il_rows y
    have hb2 : y.length ≤ 4294967295 := by unfold lenMax at hb'; omega
    have tk : (il y).take y.length = il y := List.take_of_length_le (by rw [il_len]; exact Nat.le_refl _)
    (have hcondQ := Bool.and_self; refine Todo.of ?_; repeat' (first | ((with_reducible refine Todo.to ?_); try simp only [↓rP, rT, rU, eI, eU, eB, eS, eBs, eL, eA, buildCells, sepsD, sepB, hdl, dvalX, DOp.kind, dval, frameFrom, dBin, dInt, dStr, dBeq, dUn, dLoad, cellsAt, retV, retL, DR.val, fzT, fzVs, fzV, fz1, DV.immB, IntKind.bits, dCallP, viewVs, viewV, view1, capVL, capV, viewL, noMemV, noMem, elemsOf, dAppend, dAppz, dStore, DV.one, alive, freezeAt, fzLL, fzL, bRow, bU, cellsOf, setFrom, DV.isU, lenMax, lenCap, Nat.reduceEqDiff, Nat.reduceAdd, ↓reduceIte, reduceCtorEq, Nat.reduceSub, Int.reduceToNat, Int.reducePow, Nat.reducePow, Int.reduceLE, Int.reduceLT, Nat.reduceLeDiff, Nat.reduceLT, Int.reduceBEq, Int.reduceBNe, Int.reduceEq, Int.reduceNe, Int.reduceAdd, Int.reduceSub, Int.reduceMul, Int.reduceNeg, Int.reduceTDiv, Int.reduceTMod, Int.reduceMod, Int.reduceDiv, Nat.reduceMul, forall_const, implies_true, d_slices_Clone_int64_int64, eIl, il_cons, il_len, hb', r', tk, endP_normal, endP_ret , hcondQ]) | ((with_reducible refine And.intro ?_ ?_); · first | trivial | exact ⟨hb', r'⟩ | omega | (simp; done) | (simp; omega)) | ((first | ((with_reducible refine dwp_condI (t := ?_) ?_ (fun hcQ => ?_) (fun hcQ => ?_)); rotate_left; · rfl) | ((with_reducible refine dops_guardI (t := ?_) ?_ (fun hcQ => ?_) (fun hcQ => ?_)); rotate_left; · rfl)) <;> (have hn := hcQ; have hcondQ := hcQ) <;> (try simp only [decide_eq_true_eq, decide_eq_false_iff_not, beq_iff_eq, bne_iff_ne, ne_eq, Bool.and_eq_true, Bool.or_eq_true, Bool.not_eq_true, Bool.not_eq_false, beq_eq_false_iff_ne, bne_eq_false_iff_eq, Bool.not_eq_true', Bool.not_eq_false', Int.ofNat_lt, Int.ofNat_le, Bool.or_eq_false_iff, Bool.and_eq_false_imp, Decidable.not_not, gt_iff_lt, ge_iff_le] at hn) <;> (try (exfalso; omega)) <;> (refine Todo.of ?_)) | (((with_reducible refine dwp_condA ?_ ?_ ?_); · rfl) <;> (refine Todo.of ?_))))
    all_goals first | exact Nat.zero_le _ | exact r' | exact tk | exact hb2 | exact Nat.le_refl _ | exact ⟨⟨r', hb2⟩, Nat.le_refl _⟩

def m0 (cells : List Int) : MS := ⟨cells, [0, 0, 0, 0, 0, 0, 0, 0, 0, 0, 0, 0, 0, 0, 0, 0], 0, 0, 0⟩
def vmF (code : List Ins) (cells : List Int) (fuel : Int) : List Int × Int × Int :=
  let r := runN code fuel.toNat (m0 cells)
  if r.1 ≠ 0 then (cells, r.2.used, r.1) else (r.2.cells, r.2.used, 0)
structure okVm (code : List Ins) (cells : List Int) (fuel : Int) : Prop where
  len : code.length ≤ 1000000
  fuel : fuel ≤ 1000000
  ins : ∀ i ∈ code, in64 i.n
  c : cells.length ≤ 1000000
  ci : ∀ x ∈ cells, in64 x
def fVm (code : List Ins) (cells : List Int) (fuel : Int) : Prop × DV := (okVm code cells fuel, .tup [.sl (il (vmF code cells fuel).1), .int .i64 (vmF code cells fuel).2.1, .int .i64 (vmF code cells fuel).2.2])
noncomputable def s_vm : List DV → Prop × DV := spec3 eCode eIl eI fVm
theorem s_vm_at (code : List Ins) (cells : List Int) (fuel : Int) : s_vm [.sl (code.map cIns), .sl (il cells), .int .i64 fuel] = fVm code cells fuel := spec3_at inj_Code inj_Il inj_I _ _ _ _
theorem okM_0 {cells : List Int} (c : cells.length ≤ 1000000) (ci : ∀ x ∈ cells, in64 x) : okM (m0 cells) :=
  ⟨rfl, by simp [m0], by simp [m0], by simp [m0], by simp [m0], by simp [m0], by simp [m0], c, fun x hx => by simp [m0] at hx; subst hx; simp [in64], ci⟩
theorem runN_ok (code : List Ins) (hin : ∀ i ∈ code, in64 i.n) (hl : code.length ≤ 1000000) : ∀ (k : Nat) (v : MS), okM v → v.pc ≤ 1000000 → v.used + k ≤ 1000000 →
    okM (runN code k v).2 ∧ (runN code k v).2.cells.length = v.cells.length ∧ v.used ≤ (runN code k v).2.used ∧ (runN code k v).2.used ≤ v.used + k
  | 0, v, h, _, _ => by unfold runN; split <;> exact ⟨h, rfl, by simp only; omega, by simp only; omega⟩
  | k + 1, v, h, hp, hu => by
    unfold runN
    split
    · exact ⟨h, rfl, by simp only; omega, by simp only; omega⟩
    · rename_i c
      have p0 := h.p0
      have u0 := h.u0
      have hx : v.pc.toNat < code.length := by omega
      have hi : in64 (code.getD v.pc.toNat default).n := hin _ (by rw [List.getD_eq_getElem?_getD, List.getElem?_eq_getElem hx]; exact List.getElem_mem hx)
      have ha := after_do (x := code.getD v.pc.toNat default) (okM_used h (x := v.used + 1) (by omega) (by omega)) (by simp only; omega) hi
      have hq := ha.used
      simp only at hq
      dsimp only
      split
      · exact ⟨ha.ok, ha.len, by rw [hq]; omega, by rw [hq]; omega⟩
      · obtain ⟨r1, r2, r3, r4⟩ := runN_ok code hin hl k _ ha.ok ha.pc (by rw [hq]; omega)
        exact ⟨r1, r2.trans ha.len, by rw [hq] at r3; omega, by rw [hq] at r4; omega⟩
theorem ok_vm : OkP Try.prog 24 s_vm := by
  refine OkP.mk3 (ps := [(18, s_CloneP)]) (hs := [(18, s_CloneH), (32, s_run)]) ⟨ok_CloneP, trivial⟩ ⟨ok_CloneH, ok_run, trivial⟩ m_vm_Run fun code cells fuel h => ?_
  have hk := okM_0 h.c h.ci
  have hc : cells.length ≤ 4294967296 := by have := h.c; omega
  have e1 := s_CloneH_at cells []
  rw [eq_true hc] at e1
  simp only [List.nil_append, List.length_nil] at e1
  obtain ⟨H, eH⟩ : ∃ H : List DObj, H = [⟨.imm, 1, il cells⟩, ⟨.loc, 20, [mRow 0 (m0 cells)]⟩] := ⟨_, rfl⟩
  have hk3 : Three H 1 0 := by subst eH; exact ⟨by simp, by simp, by decide⟩
  have e2 := s_run_run (t := []) hk3 (v := m0 cells) (code, fuel)
  have e3 : okRun (m0 cells) (code, fuel) := ⟨hk, by simp [m0], rfl, h.len, h.fuel, h.ins⟩
  rw [eq_true e3] at e2
  have e4 : TM.put H 1 0 (m0 cells) ++ [] = [⟨.imm, 1, il cells⟩, ⟨.loc, 20, [[.own 0 cells.length 0 cells.length, .int .i64 0, .int .i64 0, .int .i64 0, .int .i64 0, .int .i64 0, .int .i64 0, .int .i64 0, .int .i64 0, .int .i64 0, .int .i64 0, .int .i64 0, .int .i64 0, .int .i64 0, .int .i64 0, .int .i64 0, .int .i64 0, .int .i64 0, .int .i64 0, .int .i64 0]]⟩] := by subst eH; rfl
  rw [e4] at e2
  simp only at e2
  have h1 := h.len
  have h2 := h.fuel
  obtain ⟨r1, r2, r3, r4⟩ := runN_ok code h.ins h.len fuel.toNat (m0 cells) hk (by simp [m0]) (by simp [m0]; omega)
  have hm : (m0 cells).cells = cells := rfl
  rw [hm] at r2
  generalize eR : runN code fuel.toNat (m0 cells) = R at *
  have r := r1.r
  have tk : (il R.2.cells).take cells.length = il R.2.cells := List.take_of_length_le (by rw [il_len, r2]; exact Nat.le_refl _)
  (have hcondQ := Bool.and_self; refine Todo.of ?_; repeat' (first | ((with_reducible refine Todo.to ?_); try simp only [↓rP, rT, rU, eI, eU, eB, eS, eBs, eL, eA, buildCells, sepsD, sepB, hdl, dvalX, DOp.kind, dval, frameFrom, dBin, dInt, dStr, dBeq, dUn, dLoad, cellsAt, retV, retL, DR.val, fzT, fzVs, fzV, fz1, DV.immB, IntKind.bits, dCallP, viewVs, viewV, view1, capVL, capV, viewL, noMemV, noMem, elemsOf, dAppend, dAppz, dStore, DV.one, alive, freezeAt, fzLL, fzL, bRow, bU, cellsOf, setFrom, DV.isU, lenMax, lenCap, Nat.reduceEqDiff, Nat.reduceAdd, ↓reduceIte, reduceCtorEq, Nat.reduceSub, Int.reduceToNat, Int.reducePow, Nat.reducePow, Int.reduceLE, Int.reduceLT, Nat.reduceLeDiff, Nat.reduceLT, Int.reduceBEq, Int.reduceBNe, Int.reduceEq, Int.reduceNe, Int.reduceAdd, Int.reduceSub, Int.reduceMul, Int.reduceNeg, Int.reduceTDiv, Int.reduceTMod, Int.reduceMod, Int.reduceDiv, Nat.reduceMul, forall_const, implies_true, d_vm_Run, e1, e2, il_len, hc, s_CloneP_at, hk3, TM_o, TM_c, mRow_0, mRow_len, mRow_19, r, r2, tk, fVm, vmF, eR, hcondQ]) | ((with_reducible refine And.intro ?_ ?_); · first | trivial | omega | (simp; done) | (simp; omega)) | ((first | ((with_reducible refine dwp_condI (t := ?_) ?_ (fun hcQ => ?_) (fun hcQ => ?_)); rotate_left; · rfl) | ((with_reducible refine dops_guardI (t := ?_) ?_ (fun hcQ => ?_) (fun hcQ => ?_)); rotate_left; · rfl)) <;> (have hn := hcQ; have hcondQ := hcQ) <;> (try simp only [decide_eq_true_eq, decide_eq_false_iff_not, beq_iff_eq, bne_iff_ne, ne_eq, Bool.and_eq_true, Bool.or_eq_true, Bool.not_eq_true, Bool.not_eq_false, beq_eq_false_iff_ne, bne_eq_false_iff_eq, Bool.not_eq_true', Bool.not_eq_false', Int.ofNat_lt, Int.ofNat_le, Bool.or_eq_false_iff, Bool.and_eq_false_imp, Decidable.not_not, gt_iff_lt, ge_iff_le] at hn) <;> (try (exfalso; omega)) <;> (refine Todo.of ?_)) | (((with_reducible refine dwp_condA ?_ ?_ ?_); · rfl) <;> (refine Todo.of ?_))))
  all_goals simp_all
end Go.Proofs.Ytjgefhgkinocmaa
