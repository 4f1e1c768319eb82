/- Sums: New, Add, Value, and the sum of bytes. -/
import Derived.Test.YtmdgjgnmbdmdgaaCrC
set_option linter.all false
set_option maxRecDepth 20000
namespace Go.Proofs.Ytmdgjgnmbdmdgaa
open Go.Nk Crc0
abbrev eW32 (x : BitVec 32) : DV := .int .u32 (x.toNat : Int)
theorem inj_W32 : Inj eW32 := fun x y h => by
  injection h with _ h
  exact BitVec.eq_of_toNat_eq (by omega)
theorem inj_Bs : Inj eBs := fun x y h => bsl_inj (by simpa [eBs] using h)

def newS : Sm := ⟨0, 0, List.replicate 256 0#32, 0xffffffff#32, true⟩
def zeroS : Sm := ⟨0, 0, List.replicate 256 0#32, 0#32, false⟩
theorem sumZ_len : sumZ.length = 261 := by kernel_rfl
theorem sumZ_set : sumZ.set 259 (.int .u32 4294967295) = sumRow 0 0 (List.replicate 256 0#32) 0xffffffff#32 false := row_setR (by simp) 0xffffffff#32
theorem row_setM {d st : Int} {t : List (BitVec 32)} {r : BitVec 32} {m : Bool} (h : t.length = 256) (b : Bool) : (sumRow d st t r m).set 260 (.bool b) = sumRow d st t r b := by
  unfold sumRow
  rw [List.set_cons_succ, List.set_cons_succ, List.set_cons_succ, List.set_append_right _ _ (by simp [h])]
  simp [h]
theorem row_one {d st : Int} {t : List (BitVec 32)} {r : BitVec 32} {m : Bool} : ∀ d' ∈ sumRow d st t r m, d'.one = true := by
  intro d' h
  unfold sumRow at h
  simp only [List.mem_cons, List.mem_append, List.mem_map, List.not_mem_nil, or_false] at h
  rcases h with rfl | rfl | rfl | ⟨x, _, rfl⟩ | rfl | rfl <;> rfl
noncomputable def s_New : List DV → List DObj → Res := fun a hp => if a = [] then ⟨True, .ptr hp.length 1 0 0, hp ++ [oS newS]⟩ else no
theorem s_New_at (hp : List DObj) : s_New [] hp = ⟨True, .ptr hp.length 1 0 0, hp ++ [oS newS]⟩ := if_pos rfl
theorem ok_New : OkH Try.prog 7 s_New := by
  refine OkH.mk (ps := []) (hs := []) (n := 0) trivial trivial m_crc_New fun a hp h => ?_
  by_cases ha : a = []
  rotate_left
  · simp [s_New, ha, no] at h
  subst ha
  refine ⟨rfl, ?_⟩
  rw [s_New_at]
  have l1 : (sumRow 0 0 (List.replicate 256 0#32) 0xffffffff#32 false).length = 261 := row_len (by simp)
  have l2 : (sumRow 0 0 (List.replicate 256 0#32) 0xffffffff#32 true).length = 261 := row_len (by simp)
  have s1 := row_setM (d := 0) (st := 0) (t := List.replicate 256 0#32) (r := 0xffffffff#32) (m := false) (by simp) true
  
  (have hcondQ := Bool.and_self; refine Todo.of ?_); (repeat' (first | ((with_reducible refine Todo.to ?_); (repeat (first | (simp only [↓rP, rT, rU, eI, eU, eB, eS, eBs, eL, eA, buildCells, sepsD, sepB, hdl, dvalX, DOp.kind, dval, frameFrom, dBin, dInt, dStr, dBeq, dUn, dLoad, cellsAt, retV, retL, DR.val, fzT, fzVs, fzV, fz1, DV.immB, IntKind.bits, dCallP, viewVs, viewV, view1, capVL, capV, viewL, noMemV, noMem, elemsOf, dAppend, dAppz, dStore, DV.one, alive, freezeAt, fzLL, fzL, bRow, bU, cellsOf, setFrom, DV.isU, lenMax, lenCap, Nat.reduceEqDiff, Nat.reduceAdd, ↓reduceIte, reduceCtorEq, Nat.reduceSub, Int.reduceToNat, Int.reducePow, Nat.reducePow, Int.reduceLE, Int.reduceLT, Nat.reduceLeDiff, Nat.reduceLT, Int.reduceBEq, Int.reduceBNe, Int.reduceEq, Int.reduceNe, Int.reduceAdd, Int.reduceSub, Int.reduceMul, Int.reduceNeg, Int.reduceTDiv, Int.reduceTMod, Int.reduceMod, Int.reduceDiv, Nat.reduceMul, forall_const, implies_true, d_crc_New, eIls, eRows, eSs, eW32, eY, sls_len, ils_len, ils_rowsT, sls_rowsT, sls_tk0, ils_tk0, sumZ_len, sumZ_set, l1, l2, s1, endH_ret, oS, newS , hcondQ]) | (simp (disch := omega) only [i64_id, u64_id, u8_id, getD_map'])))) | ((with_reducible refine And.intro ?_ ?_); · first | trivial | exact row_one | omega | (simp; done) | (simp; omega)) | ((first | ((with_reducible refine dwp_condI (t := ?_) ?_ (fun hcQ => ?_) (fun hcQ => ?_)); rotate_left; · rfl) | ((with_reducible refine dops_guardI (t := ?_) ?_ (fun hcQ => ?_) (fun hcQ => ?_)); rotate_left; · rfl)) <;> (have hn := hcQ; have hcondQ := hcQ) <;> (try simp only [decide_eq_true_eq, decide_eq_false_iff_not, beq_iff_eq, bne_iff_ne, ne_eq, Bool.and_eq_true, Bool.or_eq_true, Bool.not_eq_true, Bool.not_eq_false, beq_eq_false_iff_ne, bne_eq_false_iff_eq, Bool.not_eq_true', Bool.not_eq_false', Int.ofNat_lt, Int.ofNat_le, Bool.or_eq_false_iff, Bool.and_eq_false_imp, Decidable.not_not, gt_iff_lt, ge_iff_le] at hn) <;> (try (exfalso; omega)) <;> (refine Todo.of ?_)) | (((with_reducible refine dwp_condA ?_ ?_ ?_); · rfl) <;> (refine Todo.of ?_)))) <;> (try (first | (with_reducible rfl) | exact Nat.le_refl _ | exact Int.le_refl _ | assumption | omega))
  all_goals exact row_one

/-! Value -/
def valF (s : Sm) : BitVec 32 := if s.m then ~~~ s.r else 0#32
noncomputable def s_Value : List DV → List DObj → Res := specM oS (fun _ : Unit => []) (fun s _ => (s.t.length = 256, .int .u32 ((valF s).toNat : Int), s)) (fun _ => (True, .int .u32 0))
theorem s_Value_at {hp : List DObj} {n : Nat} {s : Sm} (hh : hp[n]? = some (oS s)) : s_Value [.ptr n 1 0 0] hp = ⟨s.t.length = 256, .int .u32 ((valF s).toNat : Int), hp⟩ := by
  refine (specM_at (fun _ _ => oS_inj) (injL_unit _) _ _ hh ()).trans ?_
  simp only [set_same hh]
theorem s_Value_nil (hp : List DObj) : s_Value [.nilp] hp = ⟨True, .int .u32 0, hp⟩ := specM_nil (injL_unit _) _ _ hp ()
theorem n_not (x : BitVec 32) : bitsOf .xor .u32 (if IntKind.u32.signed = true then -1 else IntKind.u32.max) (x.toNat : Int) = ((~~~ x).toNat : Int) := by
  have := n_xor 0xffffffff#32 x
  rw [show (if IntKind.u32.signed = true then -1 else IntKind.u32.max : Int) = ((0xffffffff#32).toNat : Int) by decide, this]
  rw [show 0xffffffff#32 = BitVec.allOnes 32 by decide, BitVec.allOnes_xor]
theorem ok_Value : OkH Try.prog 9 s_Value := by
  refine OkH.mkM (ps := []) (hs := []) trivial trivial m_crc_Sum_Value (fun _ => rfl) (fun n hp s a hh hl h => ?_) (fun hp a h => ?_)
  · 
    have h : s.t.length = 256 := h
    simp only [set_same hh]
    have hh' : hp[n]? = some ⟨.loc, 261, [sumRow s.d s.st s.t s.r s.m]⟩ := hh
    have r1 := row_259 (d := s.d) (st := s.st) (r := s.r) (m := s.m) h
    have r2 := row_260 (d := s.d) (st := s.st) (r := s.r) (m := s.m) h
    cases hm : s.m
    · rw [hm] at hh' r1 r2
      have z : ((0#32).toNat : Int) = 0 := rfl
      simp only [valF, hm, Bool.false_eq_true, if_false, z]
      (have hcondQ := Bool.and_self; refine Todo.of ?_); (repeat' (first | ((with_reducible refine Todo.to ?_); (repeat (first | (simp only [↓rP, rT, rU, eI, eU, eB, eS, eBs, eL, eA, buildCells, sepsD, sepB, hdl, dvalX, DOp.kind, dval, frameFrom, dBin, dInt, dStr, dBeq, dUn, dLoad, cellsAt, retV, retL, DR.val, fzT, fzVs, fzV, fz1, DV.immB, IntKind.bits, dCallP, viewVs, viewV, view1, capVL, capV, viewL, noMemV, noMem, elemsOf, dAppend, dAppz, dStore, DV.one, alive, freezeAt, fzLL, fzL, bRow, bU, cellsOf, setFrom, DV.isU, lenMax, lenCap, Nat.reduceEqDiff, Nat.reduceAdd, ↓reduceIte, reduceCtorEq, Nat.reduceSub, Int.reduceToNat, Int.reducePow, Nat.reducePow, Int.reduceLE, Int.reduceLT, Nat.reduceLeDiff, Nat.reduceLT, Int.reduceBEq, Int.reduceBNe, Int.reduceEq, Int.reduceNe, Int.reduceAdd, Int.reduceSub, Int.reduceMul, Int.reduceNeg, Int.reduceTDiv, Int.reduceTMod, Int.reduceMod, Int.reduceDiv, Nat.reduceMul, forall_const, implies_true, d_crc_Sum_Value, eIls, eRows, eSs, eW32, eY, sls_len, ils_len, ils_rowsT, sls_rowsT, sls_tk0, ils_tk0, hh', r1, r2, n_not, endH_ret , hcondQ]) | (simp (disch := omega) only [i64_id, u64_id, u8_id, getD_map'])))) | ((with_reducible refine And.intro ?_ ?_); · first | trivial | omega | (simp; done) | (simp; omega)) | ((first | ((with_reducible refine dwp_condI (t := ?_) ?_ (fun hcQ => ?_) (fun hcQ => ?_)); rotate_left; · rfl) | ((with_reducible refine dops_guardI (t := ?_) ?_ (fun hcQ => ?_) (fun hcQ => ?_)); rotate_left; · rfl)) <;> (have hn := hcQ; have hcondQ := hcQ) <;> (try simp only [decide_eq_true_eq, decide_eq_false_iff_not, beq_iff_eq, bne_iff_ne, ne_eq, Bool.and_eq_true, Bool.or_eq_true, Bool.not_eq_true, Bool.not_eq_false, beq_eq_false_iff_ne, bne_eq_false_iff_eq, Bool.not_eq_true', Bool.not_eq_false', Int.ofNat_lt, Int.ofNat_le, Bool.or_eq_false_iff, Bool.and_eq_false_imp, Decidable.not_not, gt_iff_lt, ge_iff_le] at hn) <;> (try (exfalso; omega)) <;> (refine Todo.of ?_)) | (((with_reducible refine dwp_condA ?_ ?_ ?_); · rfl) <;> (refine Todo.of ?_)))) <;> (try (first | (with_reducible rfl) | exact Nat.le_refl _ | exact Int.le_refl _ | assumption | omega))
    · rw [hm] at hh' r1 r2
      simp only [valF, hm]
      (have hcondQ := Bool.and_self; refine Todo.of ?_); (repeat' (first | ((with_reducible refine Todo.to ?_); (repeat (first | (simp only [↓rP, rT, rU, eI, eU, eB, eS, eBs, eL, eA, buildCells, sepsD, sepB, hdl, dvalX, DOp.kind, dval, frameFrom, dBin, dInt, dStr, dBeq, dUn, dLoad, cellsAt, retV, retL, DR.val, fzT, fzVs, fzV, fz1, DV.immB, IntKind.bits, dCallP, viewVs, viewV, view1, capVL, capV, viewL, noMemV, noMem, elemsOf, dAppend, dAppz, dStore, DV.one, alive, freezeAt, fzLL, fzL, bRow, bU, cellsOf, setFrom, DV.isU, lenMax, lenCap, Nat.reduceEqDiff, Nat.reduceAdd, ↓reduceIte, reduceCtorEq, Nat.reduceSub, Int.reduceToNat, Int.reducePow, Nat.reducePow, Int.reduceLE, Int.reduceLT, Nat.reduceLeDiff, Nat.reduceLT, Int.reduceBEq, Int.reduceBNe, Int.reduceEq, Int.reduceNe, Int.reduceAdd, Int.reduceSub, Int.reduceMul, Int.reduceNeg, Int.reduceTDiv, Int.reduceTMod, Int.reduceMod, Int.reduceDiv, Nat.reduceMul, forall_const, implies_true, d_crc_Sum_Value, eIls, eRows, eSs, eW32, eY, sls_len, ils_len, ils_rowsT, sls_rowsT, sls_tk0, ils_tk0, hh', r1, r2, n_not, endH_ret , hcondQ]) | (simp (disch := omega) only [i64_id, u64_id, u8_id, getD_map'])))) | ((with_reducible refine And.intro ?_ ?_); · first | trivial | omega | (simp; done) | (simp; omega)) | ((first | ((with_reducible refine dwp_condI (t := ?_) ?_ (fun hcQ => ?_) (fun hcQ => ?_)); rotate_left; · rfl) | ((with_reducible refine dops_guardI (t := ?_) ?_ (fun hcQ => ?_) (fun hcQ => ?_)); rotate_left; · rfl)) <;> (have hn := hcQ; have hcondQ := hcQ) <;> (try simp only [decide_eq_true_eq, decide_eq_false_iff_not, beq_iff_eq, bne_iff_ne, ne_eq, Bool.and_eq_true, Bool.or_eq_true, Bool.not_eq_true, Bool.not_eq_false, beq_eq_false_iff_ne, bne_eq_false_iff_eq, Bool.not_eq_true', Bool.not_eq_false', Int.ofNat_lt, Int.ofNat_le, Bool.or_eq_false_iff, Bool.and_eq_false_imp, Decidable.not_not, gt_iff_lt, ge_iff_le] at hn) <;> (try (exfalso; omega)) <;> (refine Todo.of ?_)) | (((with_reducible refine dwp_condA ?_ ?_ ?_); · rfl) <;> (refine Todo.of ?_)))) <;> (try (first | (with_reducible rfl) | exact Nat.le_refl _ | exact Int.le_refl _ | assumption | omega))
  · 
    (have hcondQ := Bool.and_self; refine Todo.of ?_); (repeat' (first | ((with_reducible refine Todo.to ?_); (repeat (first | (simp only [↓rP, rT, rU, eI, eU, eB, eS, eBs, eL, eA, buildCells, sepsD, sepB, hdl, dvalX, DOp.kind, dval, frameFrom, dBin, dInt, dStr, dBeq, dUn, dLoad, cellsAt, retV, retL, DR.val, fzT, fzVs, fzV, fz1, DV.immB, IntKind.bits, dCallP, viewVs, viewV, view1, capVL, capV, viewL, noMemV, noMem, elemsOf, dAppend, dAppz, dStore, DV.one, alive, freezeAt, fzLL, fzL, bRow, bU, cellsOf, setFrom, DV.isU, lenMax, lenCap, Nat.reduceEqDiff, Nat.reduceAdd, ↓reduceIte, reduceCtorEq, Nat.reduceSub, Int.reduceToNat, Int.reducePow, Nat.reducePow, Int.reduceLE, Int.reduceLT, Nat.reduceLeDiff, Nat.reduceLT, Int.reduceBEq, Int.reduceBNe, Int.reduceEq, Int.reduceNe, Int.reduceAdd, Int.reduceSub, Int.reduceMul, Int.reduceNeg, Int.reduceTDiv, Int.reduceTMod, Int.reduceMod, Int.reduceDiv, Nat.reduceMul, forall_const, implies_true, d_crc_Sum_Value, eIls, eRows, eSs, eW32, eY, sls_len, ils_len, ils_rowsT, sls_rowsT, sls_tk0, ils_tk0, endH_ret, dPeq , hcondQ]) | (simp (disch := omega) only [i64_id, u64_id, u8_id, getD_map'])))) | ((with_reducible refine And.intro ?_ ?_); · first | trivial | omega | (simp; done) | (simp; omega)) | ((first | ((with_reducible refine dwp_condI (t := ?_) ?_ (fun hcQ => ?_) (fun hcQ => ?_)); rotate_left; · rfl) | ((with_reducible refine dops_guardI (t := ?_) ?_ (fun hcQ => ?_) (fun hcQ => ?_)); rotate_left; · rfl)) <;> (have hn := hcQ; have hcondQ := hcQ) <;> (try simp only [decide_eq_true_eq, decide_eq_false_iff_not, beq_iff_eq, bne_iff_ne, ne_eq, Bool.and_eq_true, Bool.or_eq_true, Bool.not_eq_true, Bool.not_eq_false, beq_eq_false_iff_ne, bne_eq_false_iff_eq, Bool.not_eq_true', Bool.not_eq_false', Int.ofNat_lt, Int.ofNat_le, Bool.or_eq_false_iff, Bool.and_eq_false_imp, Decidable.not_not, gt_iff_lt, ge_iff_le] at hn) <;> (try (exfalso; omega)) <;> (refine Todo.of ?_)) | (((with_reducible refine dwp_condA ?_ ?_ ?_); · rfl) <;> (refine Todo.of ?_)))) <;> (try (first | (with_reducible rfl) | exact Nat.le_refl _ | exact Int.le_refl _ | assumption | omega))

/-! Add -/
def ixOf (r : BitVec 32) (c : UInt8) : Nat := (r ^^^ BitVec.ofNat 32 c.toNat).toNat % 256
theorem n_idx (r : BitVec 32) (c : UInt8) : bitsOf .xor .u8 (IntKind.u8.wrap (r.toNat : Int)) (c.toNat : Int) = (ixOf r c : Int) := by
  have hc := c.toNat_lt
  have hw : IntKind.u8.wrap (r.toNat : Int) = ((r.toNat % 256 : Nat) : Int) := by rw [IntKind.wrap_u8]; omega
  rw [hw]
  show IntKind.u8.wrap (((BitVec.ofInt 8 ((r.toNat % 256 : Nat) : Int) ^^^ BitVec.ofInt 8 (c.toNat : Int) : BitVec 8).toNat : Nat) : Int) = _
  rw [BitVec.ofInt_natCast, BitVec.ofInt_natCast]
  have e : ((BitVec.ofNat 8 (r.toNat % 256)) ^^^ (BitVec.ofNat 8 c.toNat)).toNat = ixOf r c := by
    unfold ixOf
    rw [BitVec.toNat_xor, BitVec.toNat_ofNat, BitVec.toNat_ofNat, BitVec.toNat_xor, BitVec.toNat_ofNat, Nat.mod_eq_of_lt (show c.toNat < 2 ^ 32 by omega)]
    rw [show (256 : Nat) = 2 ^ 8 from rfl, Nat.xor_mod_two_pow, Nat.mod_mod, Nat.mod_eq_of_lt (show c.toNat < 2 ^ 8 by omega)]
  rw [e]
  exact wrap_u8_id ⟨by omega, by unfold ixOf; omega⟩
theorem ix_lt (r : BitVec 32) (c : UInt8) : ixOf r c < 256 := Nat.mod_lt _ (by omega)
theorem tab_step (r : BitVec 32) (c : UInt8) : (r >>> 8) ^^^ tab.getD (ixOf r c) 0#32 = it 8 (r ^^^ BitVec.ofNat 32 c.toNat) := by
  have hc := c.toNat_lt
  rw [tab_get (ix_lt r c)]
  generalize hx : r ^^^ BitVec.ofNat 32 c.toNat = x
  have hl : ixOf r c = x.toNat % 256 := by unfold ixOf; rw [hx]
  rw [hl]
  generalize hlo : BitVec.ofNat 32 (x.toNat % 256) = lo
  have hbit : ∀ i, lo.getLsbD i = (decide (i < 8) && x.getLsbD i) := by
    intro i
    rw [← hlo, BitVec.getLsbD_ofNat, show (256 : Nat) = 2 ^ 8 from rfl, Nat.testBit_mod_two_pow]
    by_cases h : i < 8
    · simp only [h, decide_true, Bool.true_and, BitVec.testBit_toNat]
      have : i < 32 := by omega
      simp [this]
    · simp [h]
  have hr : r >>> 8 = (x ^^^ lo) >>> 8 := by
    apply BitVec.eq_of_getLsbD_eq
    intro i hi
    rw [BitVec.getLsbD_ushiftRight, BitVec.getLsbD_ushiftRight, BitVec.getLsbD_xor, hbit, ← hx, BitVec.getLsbD_xor, BitVec.getLsbD_ofNat]
    have : c.toNat.testBit (8 + i) = false := Nat.testBit_lt_two_pow (Nat.lt_of_lt_of_le hc (by exact Nat.pow_le_pow_right (by omega) (by omega : 8 ≤ 8 + i)))
    rw [this]
    have : decide (8 + i < 8) = false := by simp
    rw [this]; simp
  rw [hr, ← it_low0 8 (x ^^^ lo) fun i hi => by rw [BitVec.getLsbD_xor, hbit]; simp [hi], ← it_xor, BitVec.xor_assoc, BitVec.xor_self, BitVec.xor_zero]

def okS (s : Sm) : Prop := s.t.length = 256 ∧ s.st = 0 ∧ (s.d ≠ 0 → s.t = tab)
def setR (s : Sm) (r : BitVec 32) : Sm := ⟨s.d, s.st, s.t, r, s.m⟩
def addS (s : Sm) (b : List UInt8) : Sm := if s.m then setR (doneS s) (reg s.r b) else s
theorem done_tab {s : Sm} (h : okS s) : (doneS s).t = tab := by
  unfold doneS
  split
  · rfl
  · rename_i e; exact h.2.2 e
theorem done_st {s : Sm} : (doneS s).st = s.st := by unfold doneS; split <;> rfl
theorem done_r {s : Sm} : (doneS s).r = s.r := by unfold doneS; split <;> rfl
theorem done_m {s : Sm} : (doneS s).m = s.m := by unfold doneS; split <;> rfl
theorem okS_add {s : Sm} {b : List UInt8} (h : okS s) : okS (addS s b) := by
  unfold addS
  split
  · exact ⟨by show (doneS s).t.length = 256; rw [done_tab h]; exact tab_len, by show (doneS s).st = 0; rw [done_st]; exact h.2.1, fun _ => done_tab h⟩
  · exact h
theorem reg_take {b : List UInt8} {k : Nat} {r : BitVec 32} (hk : k < b.length) : reg r (b.take (k + 1)) = it 8 (reg r (b.take k) ^^^ BitVec.ofNat 32 (b.getD k 0).toNat) := by
  rw [List.take_succ_eq_append_getElem hk]
  unfold reg
  rw [List.foldl_append]
  simp [hk]
noncomputable def s_Add : List DV → List DObj → Res := specM oS (fun b : List UInt8 => [.sl (bsl b)]) (fun s b => (okS s ∧ b.length ≤ 4294967296, .tup [], addS s b)) (fun _ => (True, .tup []))
theorem s_Add_at {hp : List DObj} {n : Nat} {s : Sm} (hh : hp[n]? = some (oS s)) (b : List UInt8) : s_Add [.ptr n 1 0 0, .sl (bsl b)] hp = ⟨okS s ∧ b.length ≤ 4294967296, .tup [], hp.set n (oS (addS s b))⟩ :=
  specM_at (fun _ _ => oS_inj) (fun x y h => bsl_inj (by simpa using h)) _ _ hh b
theorem s_Add_nil (hp : List DObj) (b : List UInt8) : s_Add [.nilp, .sl (bsl b)] hp = ⟨True, .tup [], hp⟩ := specM_nil (fun x y h => bsl_inj (by simpa using h)) _ _ hp b
set_option maxHeartbeats 1000000 in
theorem ok_Add : OkH Try.prog 8 s_Add := by
  refine OkH.mkM (ps := []) (hs := [(17, s_Do)]) trivial ⟨ok_Do, trivial⟩ m_crc_Sum_Add (fun _ => rfl) (fun n hp s b hh hl h => ?_) (fun hp a h => ?_)
  · 
    obtain ⟨h, hb⟩ := h
    have hb : b.length ≤ 4294967296 := hb
    obtain ⟨h1, h2, h3⟩ := id h
    have hh' : hp[n]? = some ⟨.loc, 261, [sumRow s.d s.st s.t s.r s.m]⟩ := hh
    have r1 := row_260 (d := s.d) (st := s.st) (r := s.r) (m := s.m) h1
    cases hm : s.m
    · have e : hp.set n (oS (addS s b)) = hp := by unfold addS; rw [hm]; exact set_same hh
      rw [hm] at hh' r1
      simp only [e]
      (have hcondQ := Bool.and_self; refine Todo.of ?_); (repeat' (first | ((with_reducible refine Todo.to ?_); (repeat (first | (simp only [↓rP, rT, rU, eI, eU, eB, eS, eBs, eL, eA, buildCells, sepsD, sepB, hdl, dvalX, DOp.kind, dval, frameFrom, dBin, dInt, dStr, dBeq, dUn, dLoad, cellsAt, retV, retL, DR.val, fzT, fzVs, fzV, fz1, DV.immB, IntKind.bits, dCallP, viewVs, viewV, view1, capVL, capV, viewL, noMemV, noMem, elemsOf, dAppend, dAppz, dStore, DV.one, alive, freezeAt, fzLL, fzL, bRow, bU, cellsOf, setFrom, DV.isU, lenMax, lenCap, Nat.reduceEqDiff, Nat.reduceAdd, ↓reduceIte, reduceCtorEq, Nat.reduceSub, Int.reduceToNat, Int.reducePow, Nat.reducePow, Int.reduceLE, Int.reduceLT, Nat.reduceLeDiff, Nat.reduceLT, Int.reduceBEq, Int.reduceBNe, Int.reduceEq, Int.reduceNe, Int.reduceAdd, Int.reduceSub, Int.reduceMul, Int.reduceNeg, Int.reduceTDiv, Int.reduceTMod, Int.reduceMod, Int.reduceDiv, Nat.reduceMul, forall_const, implies_true, d_crc_Sum_Add, eIls, eRows, eSs, eW32, eY, sls_len, ils_len, ils_rowsT, sls_rowsT, sls_tk0, ils_tk0, hh', r1, endH_ret , hcondQ]) | (simp (disch := omega) only [i64_id, u64_id, u8_id, getD_map'])))) | ((with_reducible refine And.intro ?_ ?_); · first | trivial | omega | (simp; done) | (simp; omega)) | ((first | ((with_reducible refine dwp_condI (t := ?_) ?_ (fun hcQ => ?_) (fun hcQ => ?_)); rotate_left; · rfl) | ((with_reducible refine dops_guardI (t := ?_) ?_ (fun hcQ => ?_) (fun hcQ => ?_)); rotate_left; · rfl)) <;> (have hn := hcQ; have hcondQ := hcQ) <;> (try simp only [decide_eq_true_eq, decide_eq_false_iff_not, beq_iff_eq, bne_iff_ne, ne_eq, Bool.and_eq_true, Bool.or_eq_true, Bool.not_eq_true, Bool.not_eq_false, beq_eq_false_iff_ne, bne_eq_false_iff_eq, Bool.not_eq_true', Bool.not_eq_false', Int.ofNat_lt, Int.ofNat_le, Bool.or_eq_false_iff, Bool.and_eq_false_imp, Decidable.not_not, gt_iff_lt, ge_iff_le] at hn) <;> (try (exfalso; omega)) <;> (refine Todo.of ?_)) | (((with_reducible refine dwp_condA ?_ ?_ ?_); · rfl) <;> (refine Todo.of ?_)))) <;> (try (first | (with_reducible rfl) | exact Nat.le_refl _ | exact Int.le_refl _ | assumption | omega))
    rw [hm] at hh' r1
    have ed := s_Do_at hh
    have t1 : (s.t.length = 256 ∧ s.st = 0) = True := eq_true ⟨h1, h2⟩
    rw [t1] at ed
    have ea : addS s b = setR (doneS s) (reg s.r b) := by unfold addS; rw [hm]; rfl
    simp only [ea]
    (have hcondQ := Bool.and_self; refine Todo.of ?_); (repeat' (first | ((with_reducible refine Todo.to ?_); (repeat (first | (simp only [↓rP, rT, rU, eI, eU, eB, eS, eBs, eL, eA, buildCells, sepsD, sepB, hdl, dvalX, DOp.kind, dval, frameFrom, dBin, dInt, dStr, dBeq, dUn, dLoad, cellsAt, retV, retL, DR.val, fzT, fzVs, fzV, fz1, DV.immB, IntKind.bits, dCallP, viewVs, viewV, view1, capVL, capV, viewL, noMemV, noMem, elemsOf, dAppend, dAppz, dStore, DV.one, alive, freezeAt, fzLL, fzL, bRow, bU, cellsOf, setFrom, DV.isU, lenMax, lenCap, Nat.reduceEqDiff, Nat.reduceAdd, ↓reduceIte, reduceCtorEq, Nat.reduceSub, Int.reduceToNat, Int.reducePow, Nat.reducePow, Int.reduceLE, Int.reduceLT, Nat.reduceLeDiff, Nat.reduceLT, Int.reduceBEq, Int.reduceBNe, Int.reduceEq, Int.reduceNe, Int.reduceAdd, Int.reduceSub, Int.reduceMul, Int.reduceNeg, Int.reduceTDiv, Int.reduceTMod, Int.reduceMod, Int.reduceDiv, Nat.reduceMul, forall_const, implies_true, d_crc_Sum_Add, eIls, eRows, eSs, eW32, eY, sls_len, ils_len, ils_rowsT, sls_rowsT, sls_tk0, ils_tk0, hh', r1, ed, endH_ret , hcondQ]) | (simp (disch := omega) only [i64_id, u64_id, u8_id, getD_map'])))) | ((with_reducible refine And.intro ?_ ?_); · first | trivial | omega | (simp; done) | (simp; omega)) | ((first | ((with_reducible refine dwp_condI (t := ?_) ?_ (fun hcQ => ?_) (fun hcQ => ?_)); rotate_left; · rfl) | ((with_reducible refine dops_guardI (t := ?_) ?_ (fun hcQ => ?_) (fun hcQ => ?_)); rotate_left; · rfl)) <;> (have hn := hcQ; have hcondQ := hcQ) <;> (try simp only [decide_eq_true_eq, decide_eq_false_iff_not, beq_iff_eq, bne_iff_ne, ne_eq, Bool.and_eq_true, Bool.or_eq_true, Bool.not_eq_true, Bool.not_eq_false, beq_eq_false_iff_ne, bne_eq_false_iff_eq, Bool.not_eq_true', Bool.not_eq_false', Int.ofNat_lt, Int.ofNat_le, Bool.or_eq_false_iff, Bool.and_eq_false_imp, Decidable.not_not, gt_iff_lt, ge_iff_le] at hn) <;> (try (exfalso; omega)) <;> (refine Todo.of ?_)) | (((with_reducible refine dwp_condA ?_ ?_ ?_); · rfl) <;> (refine Todo.of ?_)))) <;> (try (first | (with_reducible rfl) | exact Nat.le_refl _ | exact Int.le_refl _ | assumption | omega))
    have ht := done_tab h
    refine dwp_loop (fun k : Nat => ⟨[(0, .ptr n 1 0 0), (21, .sl (bsl b)), (22, .int .i64 b.length), (23, .int .i64 k)], hp.set n (oS (setR (doneS s) (reg s.r (b.take k))))⟩) (fun k => k ≤ b.length) (fun k => b.length - k) 0 trivial ?_ (Nat.zero_le _) fun k hk => ?_
    · have : setR (doneS s) s.r = doneS s := by rw [← done_r (s := s)]; rfl
      simp only [cut_some, cut_none, List.map_cons, List.map_nil, get_cons, Nk.get_nil, Nat.reduceEqDiff, ↓reduceIte, Nat.succ_ne_self, DV.cut, DV.inB, DObj.cut, List.take_nil, List.take_zero, if_true, Nat.zero_ne_one, Nat.one_ne_zero, DV.inBL, Bool.and_true, Bool.true_and, reduceCtorEq, Nat.zero_lt_one, decide_true, decide_false, Nat.reduceLT, List.take_succ_cons]
      show _ = (⟨_, hp.set n (oS (setR (doneS s) s.r))⟩ : DS)
      rw [this]; rfl
    by_cases d : k < b.length
    rotate_left
    · rw [List.take_of_length_le (by omega)]
      (have hcondQ := Bool.and_self; refine Todo.of ?_); (repeat' (first | ((with_reducible refine Todo.to ?_); (repeat (first | (simp only [↓rP, rT, rU, eI, eU, eB, eS, eBs, eL, eA, buildCells, sepsD, sepB, hdl, dvalX, DOp.kind, dval, frameFrom, dBin, dInt, dStr, dBeq, dUn, dLoad, cellsAt, retV, retL, DR.val, fzT, fzVs, fzV, fz1, DV.immB, IntKind.bits, dCallP, viewVs, viewV, view1, capVL, capV, viewL, noMemV, noMem, elemsOf, dAppend, dAppz, dStore, DV.one, alive, freezeAt, fzLL, fzL, bRow, bU, cellsOf, setFrom, DV.isU, lenMax, lenCap, Nat.reduceEqDiff, Nat.reduceAdd, ↓reduceIte, reduceCtorEq, Nat.reduceSub, Int.reduceToNat, Int.reducePow, Nat.reducePow, Int.reduceLE, Int.reduceLT, Nat.reduceLeDiff, Nat.reduceLT, Int.reduceBEq, Int.reduceBNe, Int.reduceEq, Int.reduceNe, Int.reduceAdd, Int.reduceSub, Int.reduceMul, Int.reduceNeg, Int.reduceTDiv, Int.reduceTMod, Int.reduceMod, Int.reduceDiv, Nat.reduceMul, forall_const, implies_true, d_crc_Sum_Add, eIls, eRows, eSs, eW32, eY, sls_len, ils_len, ils_rowsT, sls_rowsT, sls_tk0, ils_tk0, d, endH_normal , hcondQ]) | (simp (disch := omega) only [i64_id, u64_id, u8_id, getD_map'])))) | ((with_reducible refine And.intro ?_ ?_); · first | trivial | omega | (simp; done) | (simp; omega)) | ((first | ((with_reducible refine dwp_condI (t := ?_) ?_ (fun hcQ => ?_) (fun hcQ => ?_)); rotate_left; · rfl) | ((with_reducible refine dops_guardI (t := ?_) ?_ (fun hcQ => ?_) (fun hcQ => ?_)); rotate_left; · rfl)) <;> (have hn := hcQ; have hcondQ := hcQ) <;> (try simp only [decide_eq_true_eq, decide_eq_false_iff_not, beq_iff_eq, bne_iff_ne, ne_eq, Bool.and_eq_true, Bool.or_eq_true, Bool.not_eq_true, Bool.not_eq_false, beq_eq_false_iff_ne, bne_eq_false_iff_eq, Bool.not_eq_true', Bool.not_eq_false', Int.ofNat_lt, Int.ofNat_le, Bool.or_eq_false_iff, Bool.and_eq_false_imp, Decidable.not_not, gt_iff_lt, ge_iff_le] at hn) <;> (try (exfalso; omega)) <;> (refine Todo.of ?_)) | (((with_reducible refine dwp_condA ?_ ?_ ?_); · rfl) <;> (refine Todo.of ?_)))) <;> (try (first | (with_reducible rfl) | exact Nat.le_refl _ | exact Int.le_refl _ | assumption | omega))
    have k0 : (0 : Int) ≤ k := Int.natCast_nonneg k
    have w1 : IntKind.i64.wrap ((k : Int) + 1) = ((k + 1 : Nat) : Int) := by rw [wrap_i64_id (by omega)]; omega
    generalize hr : reg s.r (b.take k) = r
    have hg : (hp.set n (oS (setR (doneS s) r)))[n]? = some ⟨.loc, 261, [sumRow (doneS s).d (doneS s).st tab r (doneS s).m]⟩ := by rw [List.getElem?_set_self hl]; simp only [oS, setR, ht]
    have q1 := row_259 (d := (doneS s).d) (st := (doneS s).st) (r := r) (m := (doneS s).m) tab_len
    have q2 := row_len (d := (doneS s).d) (st := (doneS s).st) (r := r) (m := (doneS s).m) tab_len
    have hix := ix_lt r (b.getD k 0)
    obtain ⟨l, q3⟩ := row_tab (d := (doneS s).d) (st := (doneS s).st) (r := r) (m := (doneS s).m) tab_len hix
    have q4 := fun x => row_setR (d := (doneS s).d) (st := (doneS s).st) (r := r) (m := (doneS s).m) tab_len x
    have hw : ∀ o : DObj, (hp.set n (oS (setR (doneS s) r))).set n o = hp.set n o := fun o => List.set_set ..
    have ts := tab_step r (b.getD k 0)
    have bg : (bsl b).getD k [] = [.int .u8 ((b.getD k 0).toNat : Int)] := bsl_getD d
    (have hcondQ := Bool.and_self; refine Todo.of ?_); (repeat' (first | ((with_reducible refine Todo.to ?_); (repeat (first | (simp only [↓rP, rT, rU, eI, eU, eB, eS, eBs, eL, eA, buildCells, sepsD, sepB, hdl, dvalX, DOp.kind, dval, frameFrom, dBin, dInt, dStr, dBeq, dUn, dLoad, cellsAt, retV, retL, DR.val, fzT, fzVs, fzV, fz1, DV.immB, IntKind.bits, dCallP, viewVs, viewV, view1, capVL, capV, viewL, noMemV, noMem, elemsOf, dAppend, dAppz, dStore, DV.one, alive, freezeAt, fzLL, fzL, bRow, bU, cellsOf, setFrom, DV.isU, lenMax, lenCap, Nat.reduceEqDiff, Nat.reduceAdd, ↓reduceIte, reduceCtorEq, Nat.reduceSub, Int.reduceToNat, Int.reducePow, Nat.reducePow, Int.reduceLE, Int.reduceLT, Nat.reduceLeDiff, Nat.reduceLT, Int.reduceBEq, Int.reduceBNe, Int.reduceEq, Int.reduceNe, Int.reduceAdd, Int.reduceSub, Int.reduceMul, Int.reduceNeg, Int.reduceTDiv, Int.reduceTMod, Int.reduceMod, Int.reduceDiv, Nat.reduceMul, forall_const, implies_true, d_crc_Sum_Add, eIls, eRows, eSs, eW32, eY, sls_len, ils_len, ils_rowsT, sls_rowsT, sls_tk0, ils_tk0, d, bg, w1, hg, q1, q2, q3, q4, hw, n_idx, n_shr8, n_xor, ts, hix, dPeq , hcondQ]) | (simp (disch := omega) only [i64_id, u64_id, u8_id, getD_map'])))) | ((with_reducible refine And.intro ?_ ?_); · first | trivial | omega | (simp; done) | (simp; omega)) | ((first | ((with_reducible refine dwp_condI (t := ?_) ?_ (fun hcQ => ?_) (fun hcQ => ?_)); rotate_left; · rfl) | ((with_reducible refine dops_guardI (t := ?_) ?_ (fun hcQ => ?_) (fun hcQ => ?_)); rotate_left; · rfl)) <;> (have hn := hcQ; have hcondQ := hcQ) <;> (try simp only [decide_eq_true_eq, decide_eq_false_iff_not, beq_iff_eq, bne_iff_ne, ne_eq, Bool.and_eq_true, Bool.or_eq_true, Bool.not_eq_true, Bool.not_eq_false, beq_eq_false_iff_ne, bne_eq_false_iff_eq, Bool.not_eq_true', Bool.not_eq_false', Int.ofNat_lt, Int.ofNat_le, Bool.or_eq_false_iff, Bool.and_eq_false_imp, Decidable.not_not, gt_iff_lt, ge_iff_le] at hn) <;> (try (exfalso; omega)) <;> (refine Todo.of ?_)) | (((with_reducible refine dwp_condA ?_ ?_ ?_); · rfl) <;> (refine Todo.of ?_)))) <;> (try (first | (with_reducible rfl) | exact Nat.le_refl _ | exact Int.le_refl _ | assumption | omega))

    refine ⟨k + 1, ?_, by omega, by omega⟩
    rw [reg_take d, hr]
    simp only [cut_some, cut_none, List.map_cons, List.map_nil, get_cons, Nk.get_nil, Nat.reduceEqDiff, ↓reduceIte, Nat.succ_ne_self, DV.cut, DV.inB, DObj.cut, List.take_nil, List.take_zero, if_true, Nat.zero_ne_one, Nat.one_ne_zero, DV.inBL, Bool.and_true, Bool.true_and, reduceCtorEq, Nat.zero_lt_one, decide_true, decide_false, Nat.reduceLT, List.take_succ_cons, oS, setR, ht]
  · 
    (have hcondQ := Bool.and_self; refine Todo.of ?_); (repeat' (first | ((with_reducible refine Todo.to ?_); (repeat (first | (simp only [↓rP, rT, rU, eI, eU, eB, eS, eBs, eL, eA, buildCells, sepsD, sepB, hdl, dvalX, DOp.kind, dval, frameFrom, dBin, dInt, dStr, dBeq, dUn, dLoad, cellsAt, retV, retL, DR.val, fzT, fzVs, fzV, fz1, DV.immB, IntKind.bits, dCallP, viewVs, viewV, view1, capVL, capV, viewL, noMemV, noMem, elemsOf, dAppend, dAppz, dStore, DV.one, alive, freezeAt, fzLL, fzL, bRow, bU, cellsOf, setFrom, DV.isU, lenMax, lenCap, Nat.reduceEqDiff, Nat.reduceAdd, ↓reduceIte, reduceCtorEq, Nat.reduceSub, Int.reduceToNat, Int.reducePow, Nat.reducePow, Int.reduceLE, Int.reduceLT, Nat.reduceLeDiff, Nat.reduceLT, Int.reduceBEq, Int.reduceBNe, Int.reduceEq, Int.reduceNe, Int.reduceAdd, Int.reduceSub, Int.reduceMul, Int.reduceNeg, Int.reduceTDiv, Int.reduceTMod, Int.reduceMod, Int.reduceDiv, Nat.reduceMul, forall_const, implies_true, d_crc_Sum_Add, eIls, eRows, eSs, eW32, eY, sls_len, ils_len, ils_rowsT, sls_rowsT, sls_tk0, ils_tk0, endH_ret, dPeq , hcondQ]) | (simp (disch := omega) only [i64_id, u64_id, u8_id, getD_map'])))) | ((with_reducible refine And.intro ?_ ?_); · first | trivial | omega | (simp; done) | (simp; omega)) | ((first | ((with_reducible refine dwp_condI (t := ?_) ?_ (fun hcQ => ?_) (fun hcQ => ?_)); rotate_left; · rfl) | ((with_reducible refine dops_guardI (t := ?_) ?_ (fun hcQ => ?_) (fun hcQ => ?_)); rotate_left; · rfl)) <;> (have hn := hcQ; have hcondQ := hcQ) <;> (try simp only [decide_eq_true_eq, decide_eq_false_iff_not, beq_iff_eq, bne_iff_ne, ne_eq, Bool.and_eq_true, Bool.or_eq_true, Bool.not_eq_true, Bool.not_eq_false, beq_eq_false_iff_ne, bne_eq_false_iff_eq, Bool.not_eq_true', Bool.not_eq_false', Int.ofNat_lt, Int.ofNat_le, Bool.or_eq_false_iff, Bool.and_eq_false_imp, Decidable.not_not, gt_iff_lt, ge_iff_le] at hn) <;> (try (exfalso; omega)) <;> (refine Todo.of ?_)) | (((with_reducible refine dwp_condA ?_ ?_ ?_); · rfl) <;> (refine Todo.of ?_)))) <;> (try (first | (with_reducible rfl) | exact Nat.le_refl _ | exact Int.le_refl _ | assumption | omega))
end Go.Proofs.Ytmdgjgnmbdmdgaa
