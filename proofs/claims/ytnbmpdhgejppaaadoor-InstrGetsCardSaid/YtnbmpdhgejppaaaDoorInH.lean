/- Instructions that are written: one after the other. -/
import Derived.Test.YtnbmpdhgejppaaaDoorInD
import Derived.Test.YtnbmpdhgejppaaaDoorWr4
set_option linter.all false
set_option maxRecDepth 20000
namespace Go.Proofs.YtnbmpdhgejppaaaDoor
open Go.Nk

/-! A writer that is well, in a heap. -/
def hw (g : Bool) (hp : List DObj) (n m : Nat) (b : List UInt8) : List DObj := setW g hp n m (some b)
section
variable {g : Bool} {hp t : List DObj} {n m : Nat} {b b' : List UInt8} {o o1 o2 o3 o' : DObj}
theorem hw_len : (hw g hp n m b).length = hp.length := by simp [hw, setW]
theorem hw_lenA : (hw g hp n m b ++ t).length = hp.length + t.length := by simp [hw, setW]
theorem hw_is (h1 : n < hp.length) (h2 : m < hp.length) (h3 : n ≠ m) : isW g (hw g hp n m b ++ t) n m (some b) := by
  refine ⟨?_, ?_, h3⟩
  · rw [List.getElem?_append_left (by rw [hw_len]; exact h1)]
    simp [hw, setW, h1]
  · rw [List.getElem?_append_left (by rw [hw_len]; exact h2)]
    simp [hw, setW, h2, h3]
theorem hw_set (h1 : n < hp.length) (h2 : m < hp.length) (h3 : n ≠ m) : setW g (hw g hp n m b ++ t) n m (some b') = hw g hp n m b' ++ t := by
  show ((hw g hp n m b ++ t).set m _).set n _ = _
  rw [List.set_append_left _ _ (by rw [hw_len]; exact h2), List.set_append_left _ _ (by simp [hw_len]; exact h1)]
  congr 1
  simp only [hw, setW]
  rw [List.set_comm _ _ (Ne.symm h3), List.set_set, List.set_comm _ _ h3, List.set_set]
theorem hw_b : (hw g hp n m b ++ (o :: t))[hp.length]? = some o := by
  rw [List.getElem?_append_right (by simp [hw_len])]; simp [hw_len]
theorem hw_b1 : (hw g hp n m b ++ (o1 :: o :: t))[hp.length + 1]? = some o := by
  rw [List.getElem?_append_right (by simp [hw_len])]; simp [hw_len]
theorem hw_b2 : (hw g hp n m b ++ (o1 :: o2 :: o :: t))[hp.length + 2]? = some o := by
  rw [List.getElem?_append_right (by simp [hw_len])]; simp [hw_len]
theorem hw_sb : (hw g hp n m b ++ (o :: t)).set hp.length o' = hw g hp n m b ++ (o' :: t) := by
  rw [List.set_append_right _ _ (by simp [hw_len])]; simp [hw_len]
theorem hw_sb1 : (hw g hp n m b ++ (o1 :: o :: t)).set (hp.length + 1) o' = hw g hp n m b ++ (o1 :: o' :: t) := by
  rw [List.set_append_right _ _ (by simp [hw_len])]; simp [hw_len]
theorem hw_sb2 : (hw g hp n m b ++ (o1 :: o2 :: o :: t)).set (hp.length + 2) o' = hw g hp n m b ++ (o1 :: o2 :: o' :: t) := by
  rw [List.set_append_right _ _ (by simp [hw_len])]; simp [hw_len]
theorem hw_end (h1 : n < hp.length) (h2 : m < hp.length) : ∀ (i : Nat) (x : DObj), (hw g hp n m b)[i]? = some x → hp[i]? = some x ∨ x.cut hp.length = x := by
  intro i x hx
  simp only [hw, setW] at hx
  by_cases e1 : i = n
  · subst e1
    rw [List.getElem?_set_self (by rw [List.length_set]; exact h1)] at hx
    injection hx with hx; subst hx
    refine .inr ?_
    simp [DObj.cut, DV.cut, DV.inB, h2]
  · rw [List.getElem?_set_ne (fun e => e1 e.symm)] at hx
    by_cases e2 : i = m
    · subst e2
      rw [List.getElem?_set_self h2] at hx
      injection hx with hx; subst hx; exact .inr rfl
    · rw [List.getElem?_set_ne (fun e => e2 e.symm)] at hx
      exact .inl hx
end
theorem hw_num {hp : List DObj} {n m : Nat} (h1 : n < hp.length) (h2 : m < hp.length) (h3 : n ≠ m) (b : List UInt8) (t : List DObj) {k z : Int} (hb : b.length + 4 ≤ 4294967296) (hz : z = 1 ∨ z = 2) (hk : 0 ≤ k ∧ k < 256 ^ z.toNat) :
    s_wNum [.ptr n 1 0 0, .int .i64 k, .int .i64 z] (hw true hp n m b ++ t) = ⟨True, .tup [], hw true hp n m (b ++ putL k.toNat z.toNat) ++ t⟩ := by
  have hk2 : k < 65536 := by rcases hz with rfl | rfl <;> simp at hk <;> omega
  rw [s_wNum_at (hw_is h1 h2 h3), eq_true (show b.length + 4 ≤ 4294967296 ∧ k < 9223372036854775808 by omega)]
  have e : wNum b k z = some (b ++ putL k.toNat z.toNat) := by
    unfold wNum
    rw [if_neg]
    simp only [not_or]
    refine ⟨by omega, by omega, by omega, ?_⟩
    have := hk.2
    push_cast
    omega
  rw [e, hw_set h1 h2 h3]
theorem hu_num {hp : List DObj} {n m : Nat} (h1 : n < hp.length) (h2 : m < hp.length) (h3 : n ≠ m) (b : List UInt8) (t : List DObj) {k z : Int} (hb : b.length + 4 ≤ 4294967296) (hz : z = 1 ∨ z = 2) (hk : 0 ≤ k ∧ k < 256 ^ z.toNat) :
    s_uNum [.ptr n 1 0 0, .int .i64 k, .int .i64 z] (hw false hp n m b ++ t) = ⟨True, .tup [], hw false hp n m (b ++ putL k.toNat z.toNat) ++ t⟩ := by
  have hk2 : k < 65536 := by rcases hz with rfl | rfl <;> simp at hk <;> omega
  rw [s_uNum_at (hw_is h1 h2 h3), eq_true (show b.length + 4 ≤ 4294967296 ∧ k < 9223372036854775808 by omega)]
  have e : wNum b k z = some (b ++ putL k.toNat z.toNat) := by
    unfold wNum
    rw [if_neg]
    simp only [not_or]
    refine ⟨by omega, by omega, by omega, ?_⟩
    have := hk.2
    push_cast
    omega
  rw [e, hw_set h1 h2 h3]
def intL (x : Int) : List UInt8 := putL (intF x).length 1 ++ intF x
theorem wLen_int (b : List UInt8) (x : Int) : wLen b (intF x) 1 = some (b ++ intL x) := by
  have := intF_length x
  have e : wNum b (intF x).length 1 = some (b ++ putL (intF x).length 1) := by
    unfold wNum
    rw [if_neg]
    · rfl
    · simp only [not_or]
      exact ⟨by omega, by omega, by omega, by simp; omega⟩
  unfold wLen
  rw [e]
  simp [intL]
theorem hw_int {hp : List DObj} {n m : Nat} (h1 : n < hp.length) (h2 : m < hp.length) (h3 : n ≠ m) (b : List UInt8) (t : List DObj) {x : Int} (hb : b.length + 20 ≤ 4294967296) (hx : -9223372036854775808 ≤ x ∧ x < 9223372036854775808) :
    s_wInt [.ptr n 1 0 0, .int .i64 x] (hw true hp n m b ++ t) = ⟨True, .tup [], hw true hp n m (b ++ intL x) ++ t⟩ := by
  rw [s_wInt_at (hw_is h1 h2 h3), eq_true (show b.length + 20 ≤ 4294967296 ∧ -9223372036854775808 ≤ x ∧ x < 9223372036854775808 from ⟨hb, hx⟩), wLen_int, hw_set h1 h2 h3]
theorem hu_int {hp : List DObj} {n m : Nat} (h1 : n < hp.length) (h2 : m < hp.length) (h3 : n ≠ m) (b : List UInt8) (t : List DObj) {x : Int} (hb : b.length + 20 ≤ 4294967296) (hx : -9223372036854775808 ≤ x ∧ x < 9223372036854775808) :
    s_uInt [.ptr n 1 0 0, .int .i64 x] (hw false hp n m b ++ t) = ⟨True, .tup [], hw false hp n m (b ++ intL x) ++ t⟩ := by
  rw [s_uInt_at (hw_is h1 h2 h3), eq_true (show b.length + 20 ≤ 4294967296 ∧ -9223372036854775808 ≤ x ∧ x < 9223372036854775808 from ⟨hb, hx⟩), wLen_int, hw_set h1 h2 h3]
/-- An instruction's bytes. -/
def bytesI (x : In4) : List UInt8 :=
  putL x.op.toNat 1 ++ ((if (fmI x.op).w then putL x.a.toNat 2 else []) ++ (if (fmI x.op).s then putL x.a.toNat 1 else []) ++ (if (fmI x.op).b then putL x.b.toNat 1 else []) ++ (if (fmI x.op).n then intL x.n else []))
theorem intL_len (x : Int) : (intL x).length ≤ 9 := by
  have := intF_length x
  simp only [intL, List.length_append, putL_length]; omega
theorem bytesI_len (x : In4) : (bytesI x).length ≤ 14 ∧ 1 ≤ (bytesI x).length := by
  have := intL_len x.n
  unfold bytesI
  simp only [List.length_append, putL_length]
  split <;> split <;> split <;> split <;> simp [putL_length] <;> omega
end Go.Proofs.YtnbmpdhgejppaaaDoor

/- Instructions that are written: both sides. -/
set_option linter.all false
set_option maxRecDepth 20000
namespace Go.Proofs.YtnbmpdhgejppaaaDoor
open Go.Nk

structure WX where
  n : Nat
  m : Nat
  b : List UInt8
  x : In4
def rWX (w : WX) (a : List DV) (hp : List DObj) : Prop := a = [.agg [.ptr w.n 1 0 0], .agg (cIn w.x)] ∧ isW true hp w.n w.m (some w.b)
theorem rWX_u : ∀ x y a hp, rWX x a hp → rWX y a hp → x = y := by
  rintro ⟨n, m, b, x⟩ ⟨n', m', b', x'⟩ a hp ⟨h1, h2⟩ ⟨h3, h4⟩
  subst h1
  simp only [List.cons.injEq, DV.agg.injEq, DV.ptr.injEq, and_true] at h3
  obtain ⟨h3, h5⟩ := h3
  subst h3
  have h6 := cIn_inj _ _ (by simpa [cIn] using h5)
  simp only at h2 h4
  have h7 := h2.1.symm.trans h4.1
  simp only [Option.some.injEq, DObj.mk.injEq, List.cons.injEq, DV.own.injEq, and_true, true_and] at h7
  obtain ⟨rfl, _⟩ := h7
  have h8 := h2.2.1.symm.trans h4.2.1
  simp only [Option.some.injEq, DObj.mk.injEq, true_and] at h8
  rw [bsl_inj h8, h6]
noncomputable def s_oInstr : List DV → List DObj → Res := specG rWX (fun w => (rightI w.x = true ∧ ok64 w.x ∧ w.b.length + 40 ≤ 4294967296, .tup [])) (fun w hp => hw true hp w.n w.m (w.b ++ bytesI w.x))
theorem s_oInstr_at {hp : List DObj} {n m : Nat} {b : List UInt8} (x : In4) (h : isW true hp n m (some b)) :
    s_oInstr [.agg [.ptr n 1 0 0], .agg (cIn x)] hp = ⟨rightI x = true ∧ ok64 x ∧ b.length + 40 ≤ 4294967296, .tup [], hw true hp n m (b ++ bytesI x)⟩ :=
  specG_at (x := ⟨n, m, b, x⟩) rWX_u ⟨rfl, h⟩
theorem right_rng {x : In4} (h : rightI x = true) : (0 ≤ x.op ∧ x.op < 256) ∧ ((fmI x.op).w = true → 0 ≤ x.a ∧ x.a < 65536) ∧ ((fmI x.op).s = true → 0 ≤ x.a ∧ x.a < 256) ∧ ((fmI x.op).b = true → 0 ≤ x.b ∧ x.b < 256) := by
  have ho := right_op h
  obtain ⟨op, a, b, n⟩ := x
  simp only at ho ⊢
  unfold okOp at ho
  rcases ho with rfl | rfl | rfl | rfl | rfl | rfl | rfl | rfl | rfl | rfl
  all_goals simp [rightI, fmI, firstI] at h ⊢
  all_goals omega
set_option maxHeartbeats 4000000 in
theorem ok_instr_out_instr : OkH Tryd.prog 29 s_oInstr := by
  refine OkH.mkG (ps := [(18, s_of)]) (hs := [(46, s_wNum), (47, s_wInt)]) ⟨ok_instr_of, trivial⟩ ⟨ok_wNum, ok_wInt, trivial⟩ m_instr_out_instr (fun x a hp h => by rw [h.1]; rfl) (fun w a hp h hp1 => ?_)
  obtain ⟨n, m, b, x⟩ := w
  obtain ⟨rfl, hW⟩ := h
  obtain ⟨hr, hx, hb⟩ := hp1
  simp only at hr hx hb hW ⊢
  have h1 := isW_lt hW
  have h2 := isW_lt2 hW
  have h3 := hW.2.2
  have es : (⟨frameFrom 0 [.agg [.ptr n 1 0 0], .agg (cIn x)], hp⟩ : DS) = ⟨frameFrom 0 [.agg [.ptr n 1 0 0], .agg (cIn x)], hw true hp n m b ++ []⟩ := by rw [List.append_nil, hw, set_w hW]
  rw [es]
  have rng := right_rng hr
  have ho := right_op hr
  have ef := s_of_at x.op
  have hp0 := putL_length x.op.toNat 1
  have hp2 := putL_length x.a.toNat 2
  have q0 := fun t => hw_num h1 h2 h3 b t (k := x.op) (z := 1) (by omega) (.inl rfl) (by simpa using rng.1)
  have q1 : (fmI x.op).w = true → ∀ t, _ := fun h t => hw_num h1 h2 h3 (b ++ putL x.op.toNat 1) t (k := x.a) (z := 2) (by rw [List.length_append]; omega) (.inr rfl) (by simpa using rng.2.1 h)
  have q2 : (fmI x.op).s = true → ∀ t, _ := fun h t => hw_num h1 h2 h3 (b ++ putL x.op.toNat 1) t (k := x.a) (z := 1) (by rw [List.length_append]; omega) (.inl rfl) (by simpa using rng.2.2.1 h)
  have q3 : (fmI x.op).b = true → ∀ t, _ := fun h t => hw_num h1 h2 h3 (b ++ (putL x.op.toNat 1 ++ putL x.a.toNat 2)) t (k := x.b) (z := 1) (by rw [List.length_append, List.length_append]; omega) (.inl rfl) (by simpa using rng.2.2.2 h)
  have q4 := fun t => hw_int h1 h2 h3 (b ++ (putL x.op.toNat 1 ++ putL x.a.toNat 2)) t (x := x.n) (by rw [List.length_append, List.length_append]; omega) hx.n
  clear hp0 hp2 rng hr
  obtain ⟨op, a, bb, nn⟩ := x
  simp only at q0 q1 q2 q3 q4 ho ef ⊢
  
  unfold okOp at ho
  rcases ho with rfl | rfl | rfl | rfl | rfl | rfl | rfl | rfl | rfl | rfl
  all_goals first | (have q1 := q1 rfl) | skip
  all_goals first | (have q2 := q2 rfl) | skip
  all_goals first | (have q3 := q3 rfl) | skip
  all_goals simp only [fmV, fmI, ↓reduceIte, Int.reduceEq] at ef
  all_goals simp only [Int.reduceToNat] at q0
  all_goals first | (simp only [Int.reduceToNat] at q1) | skip
  all_goals first | (simp only [Int.reduceToNat] at q2) | skip
  all_goals first | (simp only [Int.reduceToNat] at q3) | skip
  all_goals first | (simp only [Int.reduceToNat] at q4) | skip
  all_goals simp only [bytesI, fmI, ↓reduceIte, Int.reduceEq, Bool.false_eq_true, List.append_nil, List.nil_append]
  all_goals (have hcondQ := Bool.and_self; refine Todo.of ?_); (repeat' (first | ((with_reducible refine Todo.to ?_); (repeat (first | (simp only [↓rP, rT, rU, eI, eU, eB, eS, eBs, eL, eA, buildCells, sepsD, sepB, hdl, dvalX, DOp.kind, dval, frameFrom, dBin, dInt, dStr, dBeq, dUn, dLoad, cellsAt, retV, retL, DR.val, fzT, fzVs, fzV, fz1, DV.immB, IntKind.bits, dCallP, viewVs, viewV, view1, capVL, capV, viewL, noMemV, noMem, elemsOf, dAppend, dAppz, dStore, DV.one, alive, freezeAt, fzLL, fzL, bRow, bU, cellsOf, setFrom, DV.isU, lenMax, lenCap, Nat.reduceEqDiff, Nat.reduceAdd, ↓reduceIte, reduceCtorEq, Nat.reduceSub, Int.reduceToNat, Int.reducePow, Nat.reducePow, Int.reduceLE, Int.reduceLT, Nat.reduceLeDiff, Nat.reduceLT, Int.reduceBEq, Int.reduceBNe, Int.reduceEq, Int.reduceNe, Int.reduceAdd, Int.reduceSub, Int.reduceMul, Int.reduceNeg, Int.reduceTDiv, Int.reduceTMod, Int.reduceMod, Int.reduceDiv, Nat.reduceMul, forall_const, implies_true, d_instr_out_instr, s_of_at, eIls, eIn4, eIn4s, eRows, eSs, eY, sls_len, ils_len, ils_rowsT, sls_rowsT, sls_tk0, ils_tk0, in_rowsT, in_tk0, ef, q0, q1, q2, q3, q4, hw_len, hw_lenA, hw_b, hw_b1, hw_b2, hw_sb, hw_sb1, hw_sb2, List.append_assoc, endC_normal, endC_ret, Nat.add_zero , hcondQ]) | (simp (disch := omega) only [i64_id, u64_id, u8_id, getD_map'])))) | ((with_reducible refine And.intro ?_ ?_); · first | trivial | omega | (simp; done) | (simp; omega)) | ((first | ((with_reducible refine dwp_condI (t := ?_) ?_ (fun hcQ => ?_) (fun hcQ => ?_)); rotate_left; · rfl) | ((with_reducible refine dops_guardI (t := ?_) ?_ (fun hcQ => ?_) (fun hcQ => ?_)); rotate_left; · rfl)) <;> (have hn := hcQ; have hcondQ := hcQ) <;> (try simp only [decide_eq_true_eq, decide_eq_false_iff_not, beq_iff_eq, bne_iff_ne, ne_eq, Bool.and_eq_true, Bool.or_eq_true, Bool.not_eq_true, Bool.not_eq_false, beq_eq_false_iff_ne, bne_eq_false_iff_eq, Bool.not_eq_true', Bool.not_eq_false', Int.ofNat_lt, Int.ofNat_le, Bool.or_eq_false_iff, Bool.and_eq_false_imp, Decidable.not_not, gt_iff_lt, ge_iff_le] at hn) <;> (try (exfalso; omega)) <;> (refine Todo.of ?_)) | (((with_reducible refine dwp_condA ?_ ?_ ?_); · rfl) <;> (refine Todo.of ?_)))) <;> (try (first | (with_reducible rfl) | exact Nat.le_refl _ | exact Int.le_refl _ | assumption | omega))
  all_goals exact hw_end h1 h2

/-- The bytes of instructions; or none. -/
def putI (l : List In4) : Option (List UInt8) := if l.all rightI && decide (l.length ≤ 6000) then some (l.flatMap bytesI) else none
def putV (s : Option (List UInt8)) : DV := .tup [.sl (bsl (s.getD [])), .bool s.isSome]
def okIns (l : List In4) : Prop := l.length ≤ 100000 ∧ ∀ x ∈ l, ok64 x
theorem flat_len : ∀ (l : List In4), (l.flatMap bytesI).length ≤ 14 * l.length ∧ l.length ≤ (l.flatMap bytesI).length
  | [] => by simp
  | x :: r => by
    have h1 := flat_len r
    have h2 := bytesI_len x
    simp only [List.flatMap_cons, List.length_append, List.length_cons]
    omega
theorem flat_take {l : List In4} {k : Nat} {x : In4} (h : l[k]? = some x) : (l.take (k + 1)).flatMap bytesI = (l.take k).flatMap bytesI ++ bytesI x := by
  rw [List.take_add_one, h]; simp
theorem oInstr_x (x : In4) (b : List UInt8) (o1 : DObj) (t : List DObj) (hr : rightI x = true) (hx : ok64 x) (hb : b.length + 40 ≤ 4294967296) :
    s_oInstr [.agg [.ptr 0 1 0 0], .agg (cIn x)] (⟨.loc, 2, [[.own 2 b.length 0 b.length, .bool true]]⟩ :: o1 :: ⟨.imm, 1, bsl b⟩ :: t) =
      ⟨True, .tup [], ⟨.loc, 2, [[.own 2 (b ++ bytesI x).length 0 (b ++ bytesI x).length, .bool true]]⟩ :: o1 :: ⟨.imm, 1, bsl (b ++ bytesI x)⟩ :: t⟩ := by
  rw [s_oInstr_at (n := 0) (m := 2) (b := b) x ⟨rfl, rfl, by decide⟩, eq_true (show rightI x = true ∧ ok64 x ∧ b.length + 40 ≤ 4294967296 from ⟨hr, hx, hb⟩)]
  rfl
theorem wBytes_x (b : List UInt8) (o1 : DObj) (t : List DObj) (h0 : b ≠ []) (hb : b.length ≤ 4294967296) :
    s_wBytes [.ptr 0 1 0 0] (⟨.loc, 2, [[.own 2 b.length 0 b.length, .bool true]]⟩ :: o1 :: ⟨.imm, 1, bsl b⟩ :: t) =
      ⟨True, .own (t.length + 3) b.length 0 b.length, (⟨.loc, 2, [[.own 2 b.length 0 b.length, .bool true]]⟩ :: o1 :: ⟨.imm, 1, bsl b⟩ :: t) ++ [⟨.imm, 1, bsl b⟩]⟩ := by
  rw [s_wBytes_at (n := 0) (m := 2) (b := b) ⟨rfl, rfl, by decide⟩, eq_true (show b ≠ [] ∧ b.length ≤ 4294967296 from ⟨h0, hb⟩)]
  rfl
/-- A copy of nothing; a writer of nothing. -/
noncomputable def s_CloneN : List DV → List DObj → Res := fun a hp => ⟨a = [.nil], .nil, hp⟩
theorem s_CloneN_at (hp : List DObj) : s_CloneN [.nil] hp = ⟨True, .nil, hp⟩ := by unfold s_CloneN; simp
theorem ok_CloneN : OkH Tryd.prog 49 s_CloneN := by
  refine OkH.mk (ps := []) (hs := []) (n := 1) trivial trivial m_slices_Clone_byte_byte fun a hp h => ?_
  have h : a = [.nil] := h
  subst h
  refine ⟨rfl, ?_⟩
  simp only [↓sqP, sqT, d_slices_Clone_byte_byte, s_CloneN, false_and, and_false, if_false, ite_true, ite_false, eI, eU, eB, eS, eBs, eL, eA, List.cons_append, List.take_succ_cons, List.drop_succ_cons, buildCells, List.take_zero, List.take_nil, ↓dwp_opsP, ↓dwp_opsS, sepsD, sepB, hdl, Only_set, Only_same, Only_zero, Only_succ, ↓dwp_cond, dvalX, DOp.kind, dops_some, dval, frameFrom, Nat.reduceEqDiff, Nat.reduceAdd, ↓reduceIte, if_true, beq_ft, beq_tf, bne_ft, bne_tf, bne_self_eq_false, dBin, dInt, dStr, dBeq, dUn, dLoad, cellsAt, retV, retL, DR.val, fzT, fzVs, fzV, fz1, DV.immB, List.map_cons, List.map_nil, Option.map_some, Option.map_none, Bool.false_eq_true, forall_const, reduceCtorEq, implies_true, Nat.reduceSub, List.length_cons, List.length_nil, List.getD_cons_zero, List.getD_cons_succ, Int.reduceToNat, IntKind.bits, Int.reducePow, Nat.reducePow, Int.reduceLE, Int.reduceLT, Nat.reduceLeDiff, Nat.reduceLT, dCallP, viewVs, viewV, view1, capVL, capV, viewL, noMemV, noMem, spec0_at, specB1_nil, specB2_nil1, specB2_nil2, specB2_nil3, spec1_at, List.all_cons, List.all_nil, List.getElem?_cons_zero, List.getElem?_cons_succ, List.set_cons_zero, List.set_set, List.set_cons_succ, elemsOf, dAppend, dAppz, dStore, DV.one, alive, freezeAt, List.drop_zero, List.take_length, List.not_mem_nil, List.forall_mem_cons, List.nil_append, fzLL, fzL, bRow, bU, cellsOf, setFrom, DV.isU, beq_self_eq_true, List.length_set, List.length_append, List.length_replicate, gt_iff_lt, ge_iff_le, List.getElem?_nil, Int.reduceBEq, Int.reduceBNe, Int.reduceEq, Int.reduceNe, Int.reduceAdd, Int.reduceSub, Int.reduceMul, Int.reduceNeg, Int.reduceTDiv, Int.reduceTMod, Int.reduceMod, Int.reduceDiv, ne_eq, DV.tup.injEq, DV.int.injEq, DV.bool.injEq, DV.agg.injEq, DV.str.injEq, List.cons.injEq]
noncomputable def s_wBytesN : List DV → List DObj → Res := fun a hp => ⟨∃ n, a = [.ptr n 1 0 0] ∧ hp[n]? = some ⟨.loc, 2, [[.nil, .bool true]]⟩, .nil, hp⟩
theorem s_wBytesN_at {hp : List DObj} {n : Nat} (h : hp[n]? = some ⟨.loc, 2, [[.nil, .bool true]]⟩) : s_wBytesN [.ptr n 1 0 0] hp = ⟨True, .nil, hp⟩ := by
  unfold s_wBytesN
  rw [eq_true (show ∃ n', [DV.ptr n 1 0 0] = [.ptr n' 1 0 0] ∧ hp[n']? = some ⟨.loc, 2, [[.nil, .bool true]]⟩ from ⟨n, rfl, h⟩)]
noncomputable def s_wOkN : List DV → List DObj → Res := fun a hp => ⟨∃ n, a = [.ptr n 1 0 0] ∧ hp[n]? = some ⟨.loc, 2, [[.nil, .bool true]]⟩, .bool true, hp⟩
theorem s_wOkN_at {hp : List DObj} {n : Nat} (h : hp[n]? = some ⟨.loc, 2, [[.nil, .bool true]]⟩) : s_wOkN [.ptr n 1 0 0] hp = ⟨True, .bool true, hp⟩ := by
  unfold s_wOkN
  rw [eq_true (show ∃ n', [DV.ptr n 1 0 0] = [.ptr n' 1 0 0] ∧ hp[n']? = some ⟨.loc, 2, [[.nil, .bool true]]⟩ from ⟨n, rfl, h⟩)]
theorem ok_wOkN : OkH Tryd.prog 48 s_wOkN := by
  refine OkH.mk (ps := []) (hs := []) (n := 1) trivial trivial m_reader_Writer_Ok fun a hp h => ?_
  obtain ⟨n, rfl, h⟩ := h
  refine ⟨rfl, ?_⟩
  have hl := (List.getElem?_eq_some_iff.1 h).1
  simp only [↓sqP, sqT, d_reader_Writer_Ok, s_wOkN, false_and, and_false, if_false, ite_true, ite_false, eI, eU, eB, eS, eBs, eL, eA, List.cons_append, List.take_succ_cons, List.drop_succ_cons, buildCells, List.take_zero, List.take_nil, ↓dwp_opsP, ↓dwp_opsS, sepsD, sepB, hdl, Only_set, Only_same, Only_zero, Only_succ, ↓dwp_cond, dvalX, DOp.kind, dops_some, dval, frameFrom, Nat.reduceEqDiff, Nat.reduceAdd, ↓reduceIte, if_true, beq_ft, beq_tf, bne_ft, bne_tf, bne_self_eq_false, dBin, dInt, dStr, dBeq, dUn, dLoad, cellsAt, retV, retL, DR.val, fzT, fzVs, fzV, fz1, DV.immB, List.map_cons, List.map_nil, Option.map_some, Option.map_none, Bool.false_eq_true, forall_const, reduceCtorEq, implies_true, Nat.reduceSub, List.length_cons, List.length_nil, List.getD_cons_zero, List.getD_cons_succ, Int.reduceToNat, IntKind.bits, Int.reducePow, Nat.reducePow, Int.reduceLE, Int.reduceLT, Nat.reduceLeDiff, Nat.reduceLT, dCallP, viewVs, viewV, view1, capVL, capV, viewL, noMemV, noMem, spec0_at, specB1_nil, specB2_nil1, specB2_nil2, specB2_nil3, spec1_at, List.all_cons, List.all_nil, List.getElem?_cons_zero, List.getElem?_cons_succ, List.set_cons_zero, List.set_set, List.set_cons_succ, elemsOf, dAppend, dAppz, dStore, DV.one, alive, freezeAt, List.drop_zero, List.take_length, List.not_mem_nil, List.forall_mem_cons, List.nil_append, fzLL, fzL, bRow, bU, cellsOf, setFrom, DV.isU, beq_self_eq_true, List.length_set, List.length_append, List.length_replicate, gt_iff_lt, ge_iff_le, List.getElem?_nil, Int.reduceBEq, Int.reduceBNe, Int.reduceEq, Int.reduceNe, Int.reduceAdd, Int.reduceSub, Int.reduceMul, Int.reduceNeg, Int.reduceTDiv, Int.reduceTMod, Int.reduceMod, Int.reduceDiv, ne_eq, DV.tup.injEq, DV.int.injEq, DV.bool.injEq, DV.agg.injEq, DV.str.injEq, List.cons.injEq, h, hl]
theorem ok_wBytesN : OkH Tryd.prog 30 s_wBytesN := by
  refine OkH.mk (ps := []) (hs := [(48, s_wOkN), (49, s_CloneN)]) (n := 1) trivial ⟨ok_wOkN, ok_CloneN, trivial⟩ m_reader_Writer_Bytes fun a hp h => ?_
  obtain ⟨n, rfl, h⟩ := h
  refine ⟨rfl, ?_⟩
  have hl := (List.getElem?_eq_some_iff.1 h).1
  have e1 := s_wOkN_at h
  have e2 := s_CloneN_at hp
  simp only [↓sqP, sqT, d_reader_Writer_Bytes, s_wBytesN, false_and, and_false, if_false, ite_true, ite_false, eI, eU, eB, eS, eBs, eL, eA, List.cons_append, List.take_succ_cons, List.drop_succ_cons, buildCells, List.take_zero, List.take_nil, ↓dwp_opsP, ↓dwp_opsS, sepsD, sepB, hdl, Only_set, Only_same, Only_zero, Only_succ, ↓dwp_cond, dvalX, DOp.kind, dops_some, dval, frameFrom, Nat.reduceEqDiff, Nat.reduceAdd, ↓reduceIte, if_true, beq_ft, beq_tf, bne_ft, bne_tf, bne_self_eq_false, dBin, dInt, dStr, dBeq, dUn, dLoad, cellsAt, retV, retL, DR.val, fzT, fzVs, fzV, fz1, DV.immB, List.map_cons, List.map_nil, Option.map_some, Option.map_none, Bool.false_eq_true, forall_const, reduceCtorEq, implies_true, Nat.reduceSub, List.length_cons, List.length_nil, List.getD_cons_zero, List.getD_cons_succ, Int.reduceToNat, IntKind.bits, Int.reducePow, Nat.reducePow, Int.reduceLE, Int.reduceLT, Nat.reduceLeDiff, Nat.reduceLT, dCallP, viewVs, viewV, view1, capVL, capV, viewL, noMemV, noMem, spec0_at, specB1_nil, specB2_nil1, specB2_nil2, specB2_nil3, spec1_at, List.all_cons, List.all_nil, List.getElem?_cons_zero, List.getElem?_cons_succ, List.set_cons_zero, List.set_set, List.set_cons_succ, elemsOf, dAppend, dAppz, dStore, DV.one, alive, freezeAt, List.drop_zero, List.take_length, List.not_mem_nil, List.forall_mem_cons, List.nil_append, fzLL, fzL, bRow, bU, cellsOf, setFrom, DV.isU, beq_self_eq_true, List.length_set, List.length_append, List.length_replicate, gt_iff_lt, ge_iff_le, List.getElem?_nil, Int.reduceBEq, Int.reduceBNe, Int.reduceEq, Int.reduceNe, Int.reduceAdd, Int.reduceSub, Int.reduceMul, Int.reduceNeg, Int.reduceTDiv, Int.reduceTMod, Int.reduceMod, Int.reduceDiv, ne_eq, DV.tup.injEq, DV.int.injEq, DV.bool.injEq, DV.agg.injEq, DV.str.injEq, List.cons.injEq, e1, e2, h, hl]
end Go.Proofs.YtnbmpdhgejppaaaDoor

/- Instructions' bytes: both sides. -/
set_option linter.all false
set_option maxRecDepth 20000
namespace Go.Proofs.YtnbmpdhgejppaaaDoor
open Go.Nk

theorem OkP.two {P : Program} {f : FuncId} {α : Type} {e : α → DV} (he : Inj e) {pre : α → Prop} {val : α → DV} {c : α → Prop} (h1 : OkP P f (spec1 e fun l => (pre l ∧ c l, val l))) (h2 : OkP P f (spec1 e fun l => (pre l ∧ ¬ c l, val l))) :
    OkP P f (spec1 e fun l => (pre l, val l)) := by
  intro a hp
  unfold spec1 at hp ⊢
  split at hp
  · rename_i h
    rw [dif_pos h]
    have hx := h.choose_spec
    generalize h.choose = l at *
    subst hx
    have hp : pre l := hp
    by_cases hc : c l
    · have := h1 [e l] (by rw [spec1_at he]; exact ⟨hp, hc⟩)
      rw [spec1_at he] at this
      exact this
    · have := h2 [e l] (by rw [spec1_at he]; exact ⟨hp, hc⟩)
      rw [spec1_at he] at this
      exact this
  · exact hp.elim
noncomputable def s_IPut : List DV → Prop × DV := spec1 eIn4s fun l => (okIns l, putV (putI l))
theorem s_IPut_at (l : List In4) : s_IPut [.sl (l.map cIn)] = (okIns l, putV (putI l)) := spec1_at inj_In4s _ l
theorem s_wNew_0 : s_wNew [] [] = ⟨True, .ptr 0 1 0 0, [⟨.loc, 2, [[.nil, .bool true]]⟩]⟩ := s_wNew_at []
set_option maxHeartbeats 2000000 in
theorem ok_instr_Put : OkP Tryd.prog 12 s_IPut := by
  refine OkP.two (c := fun l => l = []) inj_In4s ?_ ?_
  · refine OkP.mk1 (ps := [(8, s_IRight)]) (hs := [(28, s_wNew), (29, s_oInstr), (30, s_wBytesN)]) ⟨ok_instr_Right, trivial⟩ ⟨ok_wNew, ok_instr_out_instr, ok_wBytesN, trivial⟩ m_instr_Put fun l h => ?_
    obtain ⟨_, rfl⟩ := h
    have e0 : putI [] = some [] := rfl
    rw [e0]
    
    have eb : ∀ t, s_wBytesN [.ptr 0 1 0 0] (⟨.loc, 2, [[.nil, .bool true]]⟩ :: t) = ⟨True, .nil, ⟨.loc, 2, [[.nil, .bool true]]⟩ :: t⟩ := fun t => s_wBytesN_at rfl
    simp only [List.map_nil]
    (have hcondQ := Bool.and_self; refine Todo.of ?_); (repeat' (first | ((with_reducible refine Todo.to ?_); (repeat (first | (simp only [↓rP, rT, rU, eI, eU, eB, eS, eBs, eL, eA, buildCells, sepsD, sepB, hdl, dvalX, DOp.kind, dval, frameFrom, dBin, dInt, dStr, dBeq, dUn, dLoad, cellsAt, retV, retL, DR.val, fzT, fzVs, fzV, fz1, DV.immB, IntKind.bits, dCallP, viewVs, viewV, view1, capVL, capV, viewL, noMemV, noMem, elemsOf, dAppend, dAppz, dStore, DV.one, alive, freezeAt, fzLL, fzL, bRow, bU, cellsOf, setFrom, DV.isU, lenMax, lenCap, Nat.reduceEqDiff, Nat.reduceAdd, ↓reduceIte, reduceCtorEq, Nat.reduceSub, Int.reduceToNat, Int.reducePow, Nat.reducePow, Int.reduceLE, Int.reduceLT, Nat.reduceLeDiff, Nat.reduceLT, Int.reduceBEq, Int.reduceBNe, Int.reduceEq, Int.reduceNe, Int.reduceAdd, Int.reduceSub, Int.reduceMul, Int.reduceNeg, Int.reduceTDiv, Int.reduceTMod, Int.reduceMod, Int.reduceDiv, Nat.reduceMul, forall_const, implies_true, d_instr_Put, s_IRight_at, eIls, eIn4, eIn4s, eRows, eSs, eY, sls_len, ils_len, ils_rowsT, sls_rowsT, sls_tk0, ils_tk0, in_rowsT, in_tk0, s_wNew_0 , hcondQ]) | (simp (disch := omega) only [i64_id, u64_id, u8_id, getD_map'])))) | ((with_reducible refine And.intro ?_ ?_); · first | trivial | omega | (simp; done) | (simp; omega)) | ((first | ((with_reducible refine dwp_condI (t := ?_) ?_ (fun hcQ => ?_) (fun hcQ => ?_)); rotate_left; · rfl) | ((with_reducible refine dops_guardI (t := ?_) ?_ (fun hcQ => ?_) (fun hcQ => ?_)); rotate_left; · rfl)) <;> (have hn := hcQ; have hcondQ := hcQ) <;> (try simp only [decide_eq_true_eq, decide_eq_false_iff_not, beq_iff_eq, bne_iff_ne, ne_eq, Bool.and_eq_true, Bool.or_eq_true, Bool.not_eq_true, Bool.not_eq_false, beq_eq_false_iff_ne, bne_eq_false_iff_eq, Bool.not_eq_true', Bool.not_eq_false', Int.ofNat_lt, Int.ofNat_le, Bool.or_eq_false_iff, Bool.and_eq_false_imp, Decidable.not_not, gt_iff_lt, ge_iff_le] at hn) <;> (try (exfalso; omega)) <;> (refine Todo.of ?_)) | (((with_reducible refine dwp_condA ?_ ?_ ?_); · rfl) <;> (refine Todo.of ?_)))) <;> (try (first | (with_reducible rfl) | exact Nat.le_refl _ | exact Int.le_refl _ | assumption | omega))
    refine dwp_gown_pass ?_
    (have hcondQ := Bool.and_self; refine Todo.of ?_); (repeat' (first | ((with_reducible refine Todo.to ?_); (repeat (first | (simp only [↓rP, rT, rU, eI, eU, eB, eS, eBs, eL, eA, buildCells, sepsD, sepB, hdl, dvalX, DOp.kind, dval, frameFrom, dBin, dInt, dStr, dBeq, dUn, dLoad, cellsAt, retV, retL, DR.val, fzT, fzVs, fzV, fz1, DV.immB, IntKind.bits, dCallP, viewVs, viewV, view1, capVL, capV, viewL, noMemV, noMem, elemsOf, dAppend, dAppz, dStore, DV.one, alive, freezeAt, fzLL, fzL, bRow, bU, cellsOf, setFrom, DV.isU, lenMax, lenCap, Nat.reduceEqDiff, Nat.reduceAdd, ↓reduceIte, reduceCtorEq, Nat.reduceSub, Int.reduceToNat, Int.reducePow, Nat.reducePow, Int.reduceLE, Int.reduceLT, Nat.reduceLeDiff, Nat.reduceLT, Int.reduceBEq, Int.reduceBNe, Int.reduceEq, Int.reduceNe, Int.reduceAdd, Int.reduceSub, Int.reduceMul, Int.reduceNeg, Int.reduceTDiv, Int.reduceTMod, Int.reduceMod, Int.reduceDiv, Nat.reduceMul, forall_const, implies_true, d_instr_Put, s_IRight_at, eIls, eIn4, eIn4s, eRows, eSs, eY, sls_len, ils_len, ils_rowsT, sls_rowsT, sls_tk0, ils_tk0, in_rowsT, in_tk0, s_wNew_0 , hcondQ]) | (simp (disch := omega) only [i64_id, u64_id, u8_id, getD_map'])))) | ((with_reducible refine And.intro ?_ ?_); · first | trivial | omega | (simp; done) | (simp; omega)) | ((first | ((with_reducible refine dwp_condI (t := ?_) ?_ (fun hcQ => ?_) (fun hcQ => ?_)); rotate_left; · rfl) | ((with_reducible refine dops_guardI (t := ?_) ?_ (fun hcQ => ?_) (fun hcQ => ?_)); rotate_left; · rfl)) <;> (have hn := hcQ; have hcondQ := hcQ) <;> (try simp only [decide_eq_true_eq, decide_eq_false_iff_not, beq_iff_eq, bne_iff_ne, ne_eq, Bool.and_eq_true, Bool.or_eq_true, Bool.not_eq_true, Bool.not_eq_false, beq_eq_false_iff_ne, bne_eq_false_iff_eq, Bool.not_eq_true', Bool.not_eq_false', Int.ofNat_lt, Int.ofNat_le, Bool.or_eq_false_iff, Bool.and_eq_false_imp, Decidable.not_not, gt_iff_lt, ge_iff_le] at hn) <;> (try (exfalso; omega)) <;> (refine Todo.of ?_)) | (((with_reducible refine dwp_condA ?_ ?_ ?_); · rfl) <;> (refine Todo.of ?_)))) <;> (try (first | (with_reducible rfl) | exact Nat.le_refl _ | exact Int.le_refl _ | assumption | omega))
    refine dwp_loop (fun _ : Unit => ⟨[(0, .sl []), (4, .ptr 1 1 0 0), (9, .sl []), (10, .int .i64 0), (11, .int .i64 0)], [⟨.loc, 2, [[.nil, .bool true]]⟩, ⟨.loc, 1, [[.ptr 0 1 0 0]]⟩]⟩) (fun _ => True) (fun _ => 0) () (Nat.zero_le _) (by simp only [cut_some, cut_none, List.map_cons, List.map_nil, get_cons, Nk.get_nil, Nat.reduceEqDiff, ↓reduceIte, Nat.succ_ne_self, DV.cut, DV.inB, DObj.cut, List.take_nil, List.take_zero, if_true, Nat.zero_ne_one, Nat.one_ne_zero, DV.inBL, Bool.and_true, Bool.true_and, reduceCtorEq, Nat.zero_lt_one, decide_true, decide_false, Nat.reduceLT, List.take_succ_cons, Int.natCast_add, Int.natCast_one, List.length_append, List.length_cons, List.length_nil, Nat.zero_add] <;> rfl) trivial fun _ _ => ?_
    (have hcondQ := Bool.and_self; refine Todo.of ?_); (repeat' (first | ((with_reducible refine Todo.to ?_); (repeat (first | (simp only [↓rP, rT, rU, eI, eU, eB, eS, eBs, eL, eA, buildCells, sepsD, sepB, hdl, dvalX, DOp.kind, dval, frameFrom, dBin, dInt, dStr, dBeq, dUn, dLoad, cellsAt, retV, retL, DR.val, fzT, fzVs, fzV, fz1, DV.immB, IntKind.bits, dCallP, viewVs, viewV, view1, capVL, capV, viewL, noMemV, noMem, elemsOf, dAppend, dAppz, dStore, DV.one, alive, freezeAt, fzLL, fzL, bRow, bU, cellsOf, setFrom, DV.isU, lenMax, lenCap, Nat.reduceEqDiff, Nat.reduceAdd, ↓reduceIte, reduceCtorEq, Nat.reduceSub, Int.reduceToNat, Int.reducePow, Nat.reducePow, Int.reduceLE, Int.reduceLT, Nat.reduceLeDiff, Nat.reduceLT, Int.reduceBEq, Int.reduceBNe, Int.reduceEq, Int.reduceNe, Int.reduceAdd, Int.reduceSub, Int.reduceMul, Int.reduceNeg, Int.reduceTDiv, Int.reduceTMod, Int.reduceMod, Int.reduceDiv, Nat.reduceMul, forall_const, implies_true, d_instr_Put, s_IRight_at, eIls, eIn4, eIn4s, eRows, eSs, eY, sls_len, ils_len, ils_rowsT, sls_rowsT, sls_tk0, ils_tk0, in_rowsT, in_tk0, eb , hcondQ]) | (simp (disch := omega) only [i64_id, u64_id, u8_id, getD_map'])))) | ((with_reducible refine And.intro ?_ ?_); · first | trivial | omega | (simp; done) | (simp; omega)) | ((first | ((with_reducible refine dwp_condI (t := ?_) ?_ (fun hcQ => ?_) (fun hcQ => ?_)); rotate_left; · rfl) | ((with_reducible refine dops_guardI (t := ?_) ?_ (fun hcQ => ?_) (fun hcQ => ?_)); rotate_left; · rfl)) <;> (have hn := hcQ; have hcondQ := hcQ) <;> (try simp only [decide_eq_true_eq, decide_eq_false_iff_not, beq_iff_eq, bne_iff_ne, ne_eq, Bool.and_eq_true, Bool.or_eq_true, Bool.not_eq_true, Bool.not_eq_false, beq_eq_false_iff_ne, bne_eq_false_iff_eq, Bool.not_eq_true', Bool.not_eq_false', Int.ofNat_lt, Int.ofNat_le, Bool.or_eq_false_iff, Bool.and_eq_false_imp, Decidable.not_not, gt_iff_lt, ge_iff_le] at hn) <;> (try (exfalso; omega)) <;> (refine Todo.of ?_)) | (((with_reducible refine dwp_condA ?_ ?_ ?_); · rfl) <;> (refine Todo.of ?_)))) <;> (try (first | (with_reducible rfl) | exact Nat.le_refl _ | exact Int.le_refl _ | assumption | omega))
    all_goals rfl
  · refine OkP.mk1 (ps := [(8, s_IRight)]) (hs := [(28, s_wNew), (29, s_oInstr), (30, s_wBytes)]) ⟨ok_instr_Right, trivial⟩ ⟨ok_wNew, ok_instr_out_instr, ok_wBytes, trivial⟩ m_instr_Put fun l h => ?_
    obtain ⟨⟨hl, hx⟩, hne⟩ := h
    
    (have hcondQ := Bool.and_self; refine Todo.of ?_); (repeat' (first | ((with_reducible refine Todo.to ?_); (repeat (first | (simp only [↓rP, rT, rU, eI, eU, eB, eS, eBs, eL, eA, buildCells, sepsD, sepB, hdl, dvalX, DOp.kind, dval, frameFrom, dBin, dInt, dStr, dBeq, dUn, dLoad, cellsAt, retV, retL, DR.val, fzT, fzVs, fzV, fz1, DV.immB, IntKind.bits, dCallP, viewVs, viewV, view1, capVL, capV, viewL, noMemV, noMem, elemsOf, dAppend, dAppz, dStore, DV.one, alive, freezeAt, fzLL, fzL, bRow, bU, cellsOf, setFrom, DV.isU, lenMax, lenCap, Nat.reduceEqDiff, Nat.reduceAdd, ↓reduceIte, reduceCtorEq, Nat.reduceSub, Int.reduceToNat, Int.reducePow, Nat.reducePow, Int.reduceLE, Int.reduceLT, Nat.reduceLeDiff, Nat.reduceLT, Int.reduceBEq, Int.reduceBNe, Int.reduceEq, Int.reduceNe, Int.reduceAdd, Int.reduceSub, Int.reduceMul, Int.reduceNeg, Int.reduceTDiv, Int.reduceTMod, Int.reduceMod, Int.reduceDiv, Nat.reduceMul, forall_const, implies_true, d_instr_Put, s_IRight_at, eIls, eIn4, eIn4s, eRows, eSs, eY, sls_len, ils_len, ils_rowsT, sls_rowsT, sls_tk0, ils_tk0, in_rowsT, in_tk0, s_wNew_0 , hcondQ]) | (simp (disch := omega) only [i64_id, u64_id, u8_id, getD_map'])))) | ((with_reducible refine And.intro ?_ ?_); · first | trivial | omega | (simp; done) | (simp; omega)) | ((first | ((with_reducible refine dwp_condI (t := ?_) ?_ (fun hcQ => ?_) (fun hcQ => ?_)); rotate_left; · rfl) | ((with_reducible refine dops_guardI (t := ?_) ?_ (fun hcQ => ?_) (fun hcQ => ?_)); rotate_left; · rfl)) <;> (have hn := hcQ; have hcondQ := hcQ) <;> (try simp only [decide_eq_true_eq, decide_eq_false_iff_not, beq_iff_eq, bne_iff_ne, ne_eq, Bool.and_eq_true, Bool.or_eq_true, Bool.not_eq_true, Bool.not_eq_false, beq_eq_false_iff_ne, bne_eq_false_iff_eq, Bool.not_eq_true', Bool.not_eq_false', Int.ofNat_lt, Int.ofNat_le, Bool.or_eq_false_iff, Bool.and_eq_false_imp, Decidable.not_not, gt_iff_lt, ge_iff_le] at hn) <;> (try (exfalso; omega)) <;> (refine Todo.of ?_)) | (((with_reducible refine dwp_condA ?_ ?_ ?_); · rfl) <;> (refine Todo.of ?_)))) <;> (try (first | (with_reducible rfl) | exact Nat.le_refl _ | exact Int.le_refl _ | assumption | omega))
    refine dwp_gown_grow ?_
    (have hcondQ := Bool.and_self; refine Todo.of ?_); (repeat' (first | ((with_reducible refine Todo.to ?_); (repeat (first | (simp only [↓rP, rT, rU, eI, eU, eB, eS, eBs, eL, eA, buildCells, sepsD, sepB, hdl, dvalX, DOp.kind, dval, frameFrom, dBin, dInt, dStr, dBeq, dUn, dLoad, cellsAt, retV, retL, DR.val, fzT, fzVs, fzV, fz1, DV.immB, IntKind.bits, dCallP, viewVs, viewV, view1, capVL, capV, viewL, noMemV, noMem, elemsOf, dAppend, dAppz, dStore, DV.one, alive, freezeAt, fzLL, fzL, bRow, bU, cellsOf, setFrom, DV.isU, lenMax, lenCap, Nat.reduceEqDiff, Nat.reduceAdd, ↓reduceIte, reduceCtorEq, Nat.reduceSub, Int.reduceToNat, Int.reducePow, Nat.reducePow, Int.reduceLE, Int.reduceLT, Nat.reduceLeDiff, Nat.reduceLT, Int.reduceBEq, Int.reduceBNe, Int.reduceEq, Int.reduceNe, Int.reduceAdd, Int.reduceSub, Int.reduceMul, Int.reduceNeg, Int.reduceTDiv, Int.reduceTMod, Int.reduceMod, Int.reduceDiv, Nat.reduceMul, forall_const, implies_true, d_instr_Put, s_IRight_at, eIls, eIn4, eIn4s, eRows, eSs, eY, sls_len, ils_len, ils_rowsT, sls_rowsT, sls_tk0, ils_tk0, in_rowsT, in_tk0, List.length_map , hcondQ]) | (simp (disch := omega) only [i64_id, u64_id, u8_id, getD_map'])))) | ((with_reducible refine And.intro ?_ ?_); · first | trivial | omega | (simp; done) | (simp; omega)) | ((first | ((with_reducible refine dwp_condI (t := ?_) ?_ (fun hcQ => ?_) (fun hcQ => ?_)); rotate_left; · rfl) | ((with_reducible refine dops_guardI (t := ?_) ?_ (fun hcQ => ?_) (fun hcQ => ?_)); rotate_left; · rfl)) <;> (have hn := hcQ; have hcondQ := hcQ) <;> (try simp only [decide_eq_true_eq, decide_eq_false_iff_not, beq_iff_eq, bne_iff_ne, ne_eq, Bool.and_eq_true, Bool.or_eq_true, Bool.not_eq_true, Bool.not_eq_false, beq_eq_false_iff_ne, bne_eq_false_iff_eq, Bool.not_eq_true', Bool.not_eq_false', Int.ofNat_lt, Int.ofNat_le, Bool.or_eq_false_iff, Bool.and_eq_false_imp, Decidable.not_not, gt_iff_lt, ge_iff_le] at hn) <;> (try (exfalso; omega)) <;> (refine Todo.of ?_)) | (((with_reducible refine dwp_condA ?_ ?_ ?_); · rfl) <;> (refine Todo.of ?_)))) <;> (try (first | (with_reducible rfl) | exact Nat.le_refl _ | exact Int.le_refl _ | assumption | omega))
    have hB : ∀ k, ((l.take k).flatMap bytesI).length ≤ 1400000 := fun k => by
      have := (flat_len (l.take k)).1
      rw [List.length_take] at this
      omega
    refine dwp_each l (fun (k : Nat) (_ : Unit) => ⟨[(0, .sl (l.map cIn)), (4, .ptr 1 1 0 0), (9, .sl (l.map cIn)), (10, .int .i64 l.length), (11, .int .i64 k)], [⟨.loc, 2, [[.own 2 ((l.take k).flatMap bytesI).length 0 ((l.take k).flatMap bytesI).length, .bool true]]⟩, ⟨.loc, 1, [[.ptr 0 1 0 0]]⟩, ⟨.imm, 1, bsl ((l.take k).flatMap bytesI)⟩]⟩)
      (fun _ r _ => r.all rightI = l.all rightI) () (Nat.zero_le _) (by simp only [cut_some, cut_none, List.map_cons, List.map_nil, get_cons, Nk.get_nil, Nat.reduceEqDiff, ↓reduceIte, Nat.succ_ne_self, DV.cut, DV.inB, DObj.cut, List.take_nil, List.take_zero, if_true, Nat.zero_ne_one, Nat.one_ne_zero, DV.inBL, Bool.and_true, Bool.true_and, reduceCtorEq, Nat.zero_lt_one, decide_true, decide_false, Nat.reduceLT, List.take_succ_cons, Int.natCast_add, Int.natCast_one, List.length_append, List.length_cons, List.length_nil, Nat.zero_add] <;> rfl) rfl (fun k x rr _ d hgx hd hr => ?_) fun k _ hk hr => ?_
    · have w : IntKind.i64.wrap ((k : Int) + 1) = ((k + 1 : Nat) : Int) := by rw [wrap_i64_id (by omega)]; omega
      have k0 : (0 : Int) ≤ k := Int.natCast_nonneg k
      have hrow := map_getD cIn hgx
      have hxm := List.mem_of_getElem? hgx
      have er := s_IRight_at x
      cases c : rightI x
      · rw [c] at er
        have e : putI l = none := by
          unfold putI
          rw [← hr, List.all_cons, c]; rfl
        rw [e]
        (have hcondQ := Bool.and_self; refine Todo.of ?_); (repeat' (first | ((with_reducible refine Todo.to ?_); (repeat (first | (simp only [↓rP, rT, rU, eI, eU, eB, eS, eBs, eL, eA, buildCells, sepsD, sepB, hdl, dvalX, DOp.kind, dval, frameFrom, dBin, dInt, dStr, dBeq, dUn, dLoad, cellsAt, retV, retL, DR.val, fzT, fzVs, fzV, fz1, DV.immB, IntKind.bits, dCallP, viewVs, viewV, view1, capVL, capV, viewL, noMemV, noMem, elemsOf, dAppend, dAppz, dStore, DV.one, alive, freezeAt, fzLL, fzL, bRow, bU, cellsOf, setFrom, DV.isU, lenMax, lenCap, Nat.reduceEqDiff, Nat.reduceAdd, ↓reduceIte, reduceCtorEq, Nat.reduceSub, Int.reduceToNat, Int.reducePow, Nat.reducePow, Int.reduceLE, Int.reduceLT, Nat.reduceLeDiff, Nat.reduceLT, Int.reduceBEq, Int.reduceBNe, Int.reduceEq, Int.reduceNe, Int.reduceAdd, Int.reduceSub, Int.reduceMul, Int.reduceNeg, Int.reduceTDiv, Int.reduceTMod, Int.reduceMod, Int.reduceDiv, Nat.reduceMul, forall_const, implies_true, d_instr_Put, s_IRight_at, eIls, eIn4, eIn4s, eRows, eSs, eY, sls_len, ils_len, ils_rowsT, sls_rowsT, sls_tk0, ils_tk0, in_rowsT, in_tk0, d, k0, hrow, er, List.length_map , hcondQ]) | (simp (disch := omega) only [i64_id, u64_id, u8_id, getD_map'])))) | ((with_reducible refine And.intro ?_ ?_); · first | trivial | omega | (simp; done) | (simp; omega)) | ((first | ((with_reducible refine dwp_condI (t := ?_) ?_ (fun hcQ => ?_) (fun hcQ => ?_)); rotate_left; · rfl) | ((with_reducible refine dops_guardI (t := ?_) ?_ (fun hcQ => ?_) (fun hcQ => ?_)); rotate_left; · rfl)) <;> (have hn := hcQ; have hcondQ := hcQ) <;> (try simp only [decide_eq_true_eq, decide_eq_false_iff_not, beq_iff_eq, bne_iff_ne, ne_eq, Bool.and_eq_true, Bool.or_eq_true, Bool.not_eq_true, Bool.not_eq_false, beq_eq_false_iff_ne, bne_eq_false_iff_eq, Bool.not_eq_true', Bool.not_eq_false', Int.ofNat_lt, Int.ofNat_le, Bool.or_eq_false_iff, Bool.and_eq_false_imp, Decidable.not_not, gt_iff_lt, ge_iff_le] at hn) <;> (try (exfalso; omega)) <;> (refine Todo.of ?_)) | (((with_reducible refine dwp_condA ?_ ?_ ?_); · rfl) <;> (refine Todo.of ?_)))) <;> (try (first | (with_reducible rfl) | exact Nat.le_refl _ | exact Int.le_refl _ | assumption | omega))
        all_goals rfl
      · rw [c] at er
        have eo := fun t => oInstr_x x ((l.take k).flatMap bytesI) ⟨.loc, 1, [[.ptr 0 1 0 0]]⟩ t c (hx x hxm) (by have := hB k; omega)
        have hft := flat_take hgx
        (have hcondQ := Bool.and_self; refine Todo.of ?_); (repeat' (first | ((with_reducible refine Todo.to ?_); (repeat (first | (simp only [↓rP, rT, rU, eI, eU, eB, eS, eBs, eL, eA, buildCells, sepsD, sepB, hdl, dvalX, DOp.kind, dval, frameFrom, dBin, dInt, dStr, dBeq, dUn, dLoad, cellsAt, retV, retL, DR.val, fzT, fzVs, fzV, fz1, DV.immB, IntKind.bits, dCallP, viewVs, viewV, view1, capVL, capV, viewL, noMemV, noMem, elemsOf, dAppend, dAppz, dStore, DV.one, alive, freezeAt, fzLL, fzL, bRow, bU, cellsOf, setFrom, DV.isU, lenMax, lenCap, Nat.reduceEqDiff, Nat.reduceAdd, ↓reduceIte, reduceCtorEq, Nat.reduceSub, Int.reduceToNat, Int.reducePow, Nat.reducePow, Int.reduceLE, Int.reduceLT, Nat.reduceLeDiff, Nat.reduceLT, Int.reduceBEq, Int.reduceBNe, Int.reduceEq, Int.reduceNe, Int.reduceAdd, Int.reduceSub, Int.reduceMul, Int.reduceNeg, Int.reduceTDiv, Int.reduceTMod, Int.reduceMod, Int.reduceDiv, Nat.reduceMul, forall_const, implies_true, d_instr_Put, s_IRight_at, eIls, eIn4, eIn4s, eRows, eSs, eY, sls_len, ils_len, ils_rowsT, sls_rowsT, sls_tk0, ils_tk0, in_rowsT, in_tk0, d, k0, hrow, er, eo, w, List.length_map , hcondQ]) | (simp (disch := omega) only [i64_id, u64_id, u8_id, getD_map'])))) | ((with_reducible refine And.intro ?_ ?_); · first | trivial | omega | (simp; done) | (simp; omega)) | ((first | ((with_reducible refine dwp_condI (t := ?_) ?_ (fun hcQ => ?_) (fun hcQ => ?_)); rotate_left; · rfl) | ((with_reducible refine dops_guardI (t := ?_) ?_ (fun hcQ => ?_) (fun hcQ => ?_)); rotate_left; · rfl)) <;> (have hn := hcQ; have hcondQ := hcQ) <;> (try simp only [decide_eq_true_eq, decide_eq_false_iff_not, beq_iff_eq, bne_iff_ne, ne_eq, Bool.and_eq_true, Bool.or_eq_true, Bool.not_eq_true, Bool.not_eq_false, beq_eq_false_iff_ne, bne_eq_false_iff_eq, Bool.not_eq_true', Bool.not_eq_false', Int.ofNat_lt, Int.ofNat_le, Bool.or_eq_false_iff, Bool.and_eq_false_imp, Decidable.not_not, gt_iff_lt, ge_iff_le] at hn) <;> (try (exfalso; omega)) <;> (refine Todo.of ?_)) | (((with_reducible refine dwp_condA ?_ ?_ ?_); · rfl) <;> (refine Todo.of ?_)))) <;> (try (first | (with_reducible rfl) | exact Nat.le_refl _ | exact Int.le_refl _ | assumption | omega))
        exact ⟨(), by simp only [cut_some, cut_none, List.map_cons, List.map_nil, get_cons, Nk.get_nil, Nat.reduceEqDiff, ↓reduceIte, Nat.succ_ne_self, DV.cut, DV.inB, DObj.cut, List.take_nil, List.take_zero, if_true, Nat.zero_ne_one, Nat.one_ne_zero, DV.inBL, Bool.and_true, Bool.true_and, reduceCtorEq, Nat.zero_lt_one, decide_true, decide_false, Nat.reduceLT, List.take_succ_cons, Int.natCast_add, Int.natCast_one, List.length_append, List.length_cons, List.length_nil, Nat.zero_add, hft] <;> rfl, by rw [← hr, List.all_cons, c]; rfl⟩
    · have d2 : ¬ k < l.length := by omega
      have hft : (l.take k).flatMap bytesI = l.flatMap bytesI := by rw [List.take_of_length_le (by omega)]
      have hfl := flat_len l
      rw [hft]
      have hne2 : l.flatMap bytesI ≠ [] := fun e => by
        have h2 := hfl.2
        rw [e] at h2
        exact hne (List.length_eq_zero_iff.1 (Nat.le_zero.1 h2))
      have eb := fun t => wBytes_x (l.flatMap bytesI) ⟨.loc, 1, [[.ptr 0 1 0 0]]⟩ t hne2 (by omega)
      have hall : l.all rightI = true := by rw [← hr]; rfl
      by_cases q : 6000 < l.length
      · have q2 : (6000 : Int) < l.length := by omega
        have e : putI l = none := by
          unfold putI
          rw [hall, decide_eq_false (by omega)]; rfl
        rw [e]
        (have hcondQ := Bool.and_self; refine Todo.of ?_); (repeat' (first | ((with_reducible refine Todo.to ?_); (repeat (first | (simp only [↓rP, rT, rU, eI, eU, eB, eS, eBs, eL, eA, buildCells, sepsD, sepB, hdl, dvalX, DOp.kind, dval, frameFrom, dBin, dInt, dStr, dBeq, dUn, dLoad, cellsAt, retV, retL, DR.val, fzT, fzVs, fzV, fz1, DV.immB, IntKind.bits, dCallP, viewVs, viewV, view1, capVL, capV, viewL, noMemV, noMem, elemsOf, dAppend, dAppz, dStore, DV.one, alive, freezeAt, fzLL, fzL, bRow, bU, cellsOf, setFrom, DV.isU, lenMax, lenCap, Nat.reduceEqDiff, Nat.reduceAdd, ↓reduceIte, reduceCtorEq, Nat.reduceSub, Int.reduceToNat, Int.reducePow, Nat.reducePow, Int.reduceLE, Int.reduceLT, Nat.reduceLeDiff, Nat.reduceLT, Int.reduceBEq, Int.reduceBNe, Int.reduceEq, Int.reduceNe, Int.reduceAdd, Int.reduceSub, Int.reduceMul, Int.reduceNeg, Int.reduceTDiv, Int.reduceTMod, Int.reduceMod, Int.reduceDiv, Nat.reduceMul, forall_const, implies_true, d_instr_Put, s_IRight_at, eIls, eIn4, eIn4s, eRows, eSs, eY, sls_len, ils_len, ils_rowsT, sls_rowsT, sls_tk0, ils_tk0, in_rowsT, in_tk0, d2, q2, List.length_map , hcondQ]) | (simp (disch := omega) only [i64_id, u64_id, u8_id, getD_map'])))) | ((with_reducible refine And.intro ?_ ?_); · first | trivial | omega | (simp; done) | (simp; omega)) | ((first | ((with_reducible refine dwp_condI (t := ?_) ?_ (fun hcQ => ?_) (fun hcQ => ?_)); rotate_left; · rfl) | ((with_reducible refine dops_guardI (t := ?_) ?_ (fun hcQ => ?_) (fun hcQ => ?_)); rotate_left; · rfl)) <;> (have hn := hcQ; have hcondQ := hcQ) <;> (try simp only [decide_eq_true_eq, decide_eq_false_iff_not, beq_iff_eq, bne_iff_ne, ne_eq, Bool.and_eq_true, Bool.or_eq_true, Bool.not_eq_true, Bool.not_eq_false, beq_eq_false_iff_ne, bne_eq_false_iff_eq, Bool.not_eq_true', Bool.not_eq_false', Int.ofNat_lt, Int.ofNat_le, Bool.or_eq_false_iff, Bool.and_eq_false_imp, Decidable.not_not, gt_iff_lt, ge_iff_le] at hn) <;> (try (exfalso; omega)) <;> (refine Todo.of ?_)) | (((with_reducible refine dwp_condA ?_ ?_ ?_); · rfl) <;> (refine Todo.of ?_)))) <;> (try (first | (with_reducible rfl) | exact Nat.le_refl _ | exact Int.le_refl _ | assumption | omega))
        all_goals rfl
      · have q2 : ¬ (6000 : Int) < l.length := by omega
        have e : putI l = some (l.flatMap bytesI) := by
          unfold putI
          rw [hall, decide_eq_true (by omega)]; rfl
        rw [e]
        (have hcondQ := Bool.and_self; refine Todo.of ?_); (repeat' (first | ((with_reducible refine Todo.to ?_); (repeat (first | (simp only [↓rP, rT, rU, eI, eU, eB, eS, eBs, eL, eA, buildCells, sepsD, sepB, hdl, dvalX, DOp.kind, dval, frameFrom, dBin, dInt, dStr, dBeq, dUn, dLoad, cellsAt, retV, retL, DR.val, fzT, fzVs, fzV, fz1, DV.immB, IntKind.bits, dCallP, viewVs, viewV, view1, capVL, capV, viewL, noMemV, noMem, elemsOf, dAppend, dAppz, dStore, DV.one, alive, freezeAt, fzLL, fzL, bRow, bU, cellsOf, setFrom, DV.isU, lenMax, lenCap, Nat.reduceEqDiff, Nat.reduceAdd, ↓reduceIte, reduceCtorEq, Nat.reduceSub, Int.reduceToNat, Int.reducePow, Nat.reducePow, Int.reduceLE, Int.reduceLT, Nat.reduceLeDiff, Nat.reduceLT, Int.reduceBEq, Int.reduceBNe, Int.reduceEq, Int.reduceNe, Int.reduceAdd, Int.reduceSub, Int.reduceMul, Int.reduceNeg, Int.reduceTDiv, Int.reduceTMod, Int.reduceMod, Int.reduceDiv, Nat.reduceMul, forall_const, implies_true, d_instr_Put, s_IRight_at, eIls, eIn4, eIn4s, eRows, eSs, eY, sls_len, ils_len, ils_rowsT, sls_rowsT, sls_tk0, ils_tk0, in_rowsT, in_tk0, d2, q2, eb, List.length_map , hcondQ]) | (simp (disch := omega) only [i64_id, u64_id, u8_id, getD_map'])))) | ((with_reducible refine And.intro ?_ ?_); · first | trivial | omega | (simp; done) | (simp; omega)) | ((first | ((with_reducible refine dwp_condI (t := ?_) ?_ (fun hcQ => ?_) (fun hcQ => ?_)); rotate_left; · rfl) | ((with_reducible refine dops_guardI (t := ?_) ?_ (fun hcQ => ?_) (fun hcQ => ?_)); rotate_left; · rfl)) <;> (have hn := hcQ; have hcondQ := hcQ) <;> (try simp only [decide_eq_true_eq, decide_eq_false_iff_not, beq_iff_eq, bne_iff_ne, ne_eq, Bool.and_eq_true, Bool.or_eq_true, Bool.not_eq_true, Bool.not_eq_false, beq_eq_false_iff_ne, bne_eq_false_iff_eq, Bool.not_eq_true', Bool.not_eq_false', Int.ofNat_lt, Int.ofNat_le, Bool.or_eq_false_iff, Bool.and_eq_false_imp, Decidable.not_not, gt_iff_lt, ge_iff_le] at hn) <;> (try (exfalso; omega)) <;> (refine Todo.of ?_)) | (((with_reducible refine dwp_condA ?_ ?_ ?_); · rfl) <;> (refine Todo.of ?_)))) <;> (try (first | (with_reducible rfl) | exact Nat.le_refl _ | exact Int.le_refl _ | assumption | omega))
        rw [List.take_of_length_le (by rw [bsl_length]; exact Nat.le_refl _)]
        rfl
theorem uNum_x {b : List UInt8} (t : List DObj) {k z : Int} (hb : b.length + 4 ≤ 4294967296) (hz : z = 1 ∨ z = 2) (hk : 0 ≤ k ∧ k < 256 ^ z.toNat) :
    s_uNum [.ptr 0 1 0 0, .int .i64 k, .int .i64 z] (⟨.loc, 2, [[.own 1 b.length 0 b.length, .bool false]]⟩ :: ⟨.imm, 1, bsl b⟩ :: t) =
      ⟨True, .tup [], ⟨.loc, 2, [[.own 1 (b ++ putL k.toNat z.toNat).length 0 (b ++ putL k.toNat z.toNat).length, .bool false]]⟩ :: ⟨.imm, 1, bsl (b ++ putL k.toNat z.toNat)⟩ :: t⟩ := 
  hu_num (hp := [⟨.loc, 2, [[.own 1 b.length 0 b.length, .bool false]]⟩, ⟨.imm, 1, bsl b⟩]) (n := 0) (m := 1) (by simp) (by simp) (by decide) b t hb hz hk
theorem uInt_x {b : List UInt8} (t : List DObj) {x : Int} (hb : b.length + 20 ≤ 4294967296) (hx : -9223372036854775808 ≤ x ∧ x < 9223372036854775808) :
    s_uInt [.ptr 0 1 0 0, .int .i64 x] (⟨.loc, 2, [[.own 1 b.length 0 b.length, .bool false]]⟩ :: ⟨.imm, 1, bsl b⟩ :: t) =
      ⟨True, .tup [], ⟨.loc, 2, [[.own 1 (b ++ intL x).length 0 (b ++ intL x).length, .bool false]]⟩ :: ⟨.imm, 1, bsl (b ++ intL x)⟩ :: t⟩ := 
  hu_int (hp := [⟨.loc, 2, [[.own 1 b.length 0 b.length, .bool false]]⟩, ⟨.imm, 1, bsl b⟩]) (n := 0) (m := 1) (by simp) (by simp) (by decide) b t hb hx
set_option maxHeartbeats 4000000 in
theorem ok_noriaref28_Put : OkP Tryd.prog 13 s_IPut := by
  refine OkP.mk1 (ps := [(9, s_IRight)]) (hs := [(31, s_uNum), (32, s_uInt)]) ⟨ok_noriaref28_Right, trivial⟩ ⟨ok_uNum, ok_uInt, trivial⟩ m_noriaref28_Put fun l h => ?_
  obtain ⟨hl, hx⟩ := h
  
  by_cases q : 6000 < l.length
  · have q2 : (6000 : Int) < l.length := by omega
    have e : putI l = none := by
      unfold putI
      rw [decide_eq_false (by omega), Bool.and_false]; rfl
    rw [e]
    (have hcondQ := Bool.and_self; refine Todo.of ?_); (repeat' (first | ((with_reducible refine Todo.to ?_); (repeat (first | (simp only [↓rP, rT, rU, eI, eU, eB, eS, eBs, eL, eA, buildCells, sepsD, sepB, hdl, dvalX, DOp.kind, dval, frameFrom, dBin, dInt, dStr, dBeq, dUn, dLoad, cellsAt, retV, retL, DR.val, fzT, fzVs, fzV, fz1, DV.immB, IntKind.bits, dCallP, viewVs, viewV, view1, capVL, capV, viewL, noMemV, noMem, elemsOf, dAppend, dAppz, dStore, DV.one, alive, freezeAt, fzLL, fzL, bRow, bU, cellsOf, setFrom, DV.isU, lenMax, lenCap, Nat.reduceEqDiff, Nat.reduceAdd, ↓reduceIte, reduceCtorEq, Nat.reduceSub, Int.reduceToNat, Int.reducePow, Nat.reducePow, Int.reduceLE, Int.reduceLT, Nat.reduceLeDiff, Nat.reduceLT, Int.reduceBEq, Int.reduceBNe, Int.reduceEq, Int.reduceNe, Int.reduceAdd, Int.reduceSub, Int.reduceMul, Int.reduceNeg, Int.reduceTDiv, Int.reduceTMod, Int.reduceMod, Int.reduceDiv, Nat.reduceMul, forall_const, implies_true, d_noriaref28_Put, s_IRight_at, eIls, eIn4, eIn4s, eRows, eSs, eY, sls_len, ils_len, ils_rowsT, sls_rowsT, sls_tk0, ils_tk0, in_rowsT, in_tk0, q2, List.length_map , hcondQ]) | (simp (disch := omega) only [i64_id, u64_id, u8_id, getD_map'])))) | ((with_reducible refine And.intro ?_ ?_); · first | trivial | omega | (simp; done) | (simp; omega)) | ((first | ((with_reducible refine dwp_condI (t := ?_) ?_ (fun hcQ => ?_) (fun hcQ => ?_)); rotate_left; · rfl) | ((with_reducible refine dops_guardI (t := ?_) ?_ (fun hcQ => ?_) (fun hcQ => ?_)); rotate_left; · rfl)) <;> (have hn := hcQ; have hcondQ := hcQ) <;> (try simp only [decide_eq_true_eq, decide_eq_false_iff_not, beq_iff_eq, bne_iff_ne, ne_eq, Bool.and_eq_true, Bool.or_eq_true, Bool.not_eq_true, Bool.not_eq_false, beq_eq_false_iff_ne, bne_eq_false_iff_eq, Bool.not_eq_true', Bool.not_eq_false', Int.ofNat_lt, Int.ofNat_le, Bool.or_eq_false_iff, Bool.and_eq_false_imp, Decidable.not_not, gt_iff_lt, ge_iff_le] at hn) <;> (try (exfalso; omega)) <;> (refine Todo.of ?_)) | (((with_reducible refine dwp_condA ?_ ?_ ?_); · rfl) <;> (refine Todo.of ?_)))) <;> (try (first | (with_reducible rfl) | exact Nat.le_refl _ | exact Int.le_refl _ | assumption | omega))
    all_goals rfl
  have q2 : ¬ (6000 : Int) < l.length := by omega
  (have hcondQ := Bool.and_self; refine Todo.of ?_); (repeat' (first | ((with_reducible refine Todo.to ?_); (repeat (first | (simp only [↓rP, rT, rU, eI, eU, eB, eS, eBs, eL, eA, buildCells, sepsD, sepB, hdl, dvalX, DOp.kind, dval, frameFrom, dBin, dInt, dStr, dBeq, dUn, dLoad, cellsAt, retV, retL, DR.val, fzT, fzVs, fzV, fz1, DV.immB, IntKind.bits, dCallP, viewVs, viewV, view1, capVL, capV, viewL, noMemV, noMem, elemsOf, dAppend, dAppz, dStore, DV.one, alive, freezeAt, fzLL, fzL, bRow, bU, cellsOf, setFrom, DV.isU, lenMax, lenCap, Nat.reduceEqDiff, Nat.reduceAdd, ↓reduceIte, reduceCtorEq, Nat.reduceSub, Int.reduceToNat, Int.reducePow, Nat.reducePow, Int.reduceLE, Int.reduceLT, Nat.reduceLeDiff, Nat.reduceLT, Int.reduceBEq, Int.reduceBNe, Int.reduceEq, Int.reduceNe, Int.reduceAdd, Int.reduceSub, Int.reduceMul, Int.reduceNeg, Int.reduceTDiv, Int.reduceTMod, Int.reduceMod, Int.reduceDiv, Nat.reduceMul, forall_const, implies_true, d_noriaref28_Put, s_IRight_at, eIls, eIn4, eIn4s, eRows, eSs, eY, sls_len, ils_len, ils_rowsT, sls_rowsT, sls_tk0, ils_tk0, in_rowsT, in_tk0, q2, List.length_map , hcondQ]) | (simp (disch := omega) only [i64_id, u64_id, u8_id, getD_map'])))) | ((with_reducible refine And.intro ?_ ?_); · first | trivial | omega | (simp; done) | (simp; omega)) | ((first | ((with_reducible refine dwp_condI (t := ?_) ?_ (fun hcQ => ?_) (fun hcQ => ?_)); rotate_left; · rfl) | ((with_reducible refine dops_guardI (t := ?_) ?_ (fun hcQ => ?_) (fun hcQ => ?_)); rotate_left; · rfl)) <;> (have hn := hcQ; have hcondQ := hcQ) <;> (try simp only [decide_eq_true_eq, decide_eq_false_iff_not, beq_iff_eq, bne_iff_ne, ne_eq, Bool.and_eq_true, Bool.or_eq_true, Bool.not_eq_true, Bool.not_eq_false, beq_eq_false_iff_ne, bne_eq_false_iff_eq, Bool.not_eq_true', Bool.not_eq_false', Int.ofNat_lt, Int.ofNat_le, Bool.or_eq_false_iff, Bool.and_eq_false_imp, Decidable.not_not, gt_iff_lt, ge_iff_le] at hn) <;> (try (exfalso; omega)) <;> (refine Todo.of ?_)) | (((with_reducible refine dwp_condA ?_ ?_ ?_); · rfl) <;> (refine Todo.of ?_)))) <;> (try (first | (with_reducible rfl) | exact Nat.le_refl _ | exact Int.le_refl _ | assumption | omega))
  refine dwp_gown_grow ?_
  (have hcondQ := Bool.and_self; refine Todo.of ?_); (repeat' (first | ((with_reducible refine Todo.to ?_); (repeat (first | (simp only [↓rP, rT, rU, eI, eU, eB, eS, eBs, eL, eA, buildCells, sepsD, sepB, hdl, dvalX, DOp.kind, dval, frameFrom, dBin, dInt, dStr, dBeq, dUn, dLoad, cellsAt, retV, retL, DR.val, fzT, fzVs, fzV, fz1, DV.immB, IntKind.bits, dCallP, viewVs, viewV, view1, capVL, capV, viewL, noMemV, noMem, elemsOf, dAppend, dAppz, dStore, DV.one, alive, freezeAt, fzLL, fzL, bRow, bU, cellsOf, setFrom, DV.isU, lenMax, lenCap, Nat.reduceEqDiff, Nat.reduceAdd, ↓reduceIte, reduceCtorEq, Nat.reduceSub, Int.reduceToNat, Int.reducePow, Nat.reducePow, Int.reduceLE, Int.reduceLT, Nat.reduceLeDiff, Nat.reduceLT, Int.reduceBEq, Int.reduceBNe, Int.reduceEq, Int.reduceNe, Int.reduceAdd, Int.reduceSub, Int.reduceMul, Int.reduceNeg, Int.reduceTDiv, Int.reduceTMod, Int.reduceMod, Int.reduceDiv, Nat.reduceMul, forall_const, implies_true, d_noriaref28_Put, s_IRight_at, eIls, eIn4, eIn4s, eRows, eSs, eY, sls_len, ils_len, ils_rowsT, sls_rowsT, sls_tk0, ils_tk0, in_rowsT, in_tk0, List.length_map , hcondQ]) | (simp (disch := omega) only [i64_id, u64_id, u8_id, getD_map'])))) | ((with_reducible refine And.intro ?_ ?_); · first | trivial | omega | (simp; done) | (simp; omega)) | ((first | ((with_reducible refine dwp_condI (t := ?_) ?_ (fun hcQ => ?_) (fun hcQ => ?_)); rotate_left; · rfl) | ((with_reducible refine dops_guardI (t := ?_) ?_ (fun hcQ => ?_) (fun hcQ => ?_)); rotate_left; · rfl)) <;> (have hn := hcQ; have hcondQ := hcQ) <;> (try simp only [decide_eq_true_eq, decide_eq_false_iff_not, beq_iff_eq, bne_iff_ne, ne_eq, Bool.and_eq_true, Bool.or_eq_true, Bool.not_eq_true, Bool.not_eq_false, beq_eq_false_iff_ne, bne_eq_false_iff_eq, Bool.not_eq_true', Bool.not_eq_false', Int.ofNat_lt, Int.ofNat_le, Bool.or_eq_false_iff, Bool.and_eq_false_imp, Decidable.not_not, gt_iff_lt, ge_iff_le] at hn) <;> (try (exfalso; omega)) <;> (refine Todo.of ?_)) | (((with_reducible refine dwp_condA ?_ ?_ ?_); · rfl) <;> (refine Todo.of ?_)))) <;> (try (first | (with_reducible rfl) | exact Nat.le_refl _ | exact Int.le_refl _ | assumption | omega))
  have hB : ∀ k, ((l.take k).flatMap bytesI).length ≤ 1400000 := fun k => by
    have := (flat_len (l.take k)).1
    rw [List.length_take] at this
    omega
  refine dwp_each l (fun (k : Nat) (_ : Unit) => ⟨[(0, .sl (l.map cIn)), (4, .ptr 0 1 0 0), (5, .int .i64 k)], [⟨.loc, 2, [[.own 1 ((l.take k).flatMap bytesI).length 0 ((l.take k).flatMap bytesI).length, .bool false]]⟩, ⟨.imm, 1, bsl ((l.take k).flatMap bytesI)⟩]⟩)
    (fun _ r _ => r.all rightI = l.all rightI) () (Nat.zero_le _) (by simp only [cut_some, cut_none, List.map_cons, List.map_nil, get_cons, Nk.get_nil, Nat.reduceEqDiff, ↓reduceIte, Nat.succ_ne_self, DV.cut, DV.inB, DObj.cut, List.take_nil, List.take_zero, if_true, Nat.zero_ne_one, Nat.one_ne_zero, DV.inBL, Bool.and_true, Bool.true_and, reduceCtorEq, Nat.zero_lt_one, decide_true, decide_false, Nat.reduceLT, List.take_succ_cons, Int.natCast_add, Int.natCast_one, List.length_append, List.length_cons, List.length_nil, Nat.zero_add] <;> rfl) rfl (fun k x rr _ d hgx hd hr => ?_) fun k _ hk hr => ?_
  · have w : IntKind.i64.wrap ((k : Int) + 1) = ((k + 1 : Nat) : Int) := by rw [wrap_i64_id (by omega)]; omega
    have k0 : (0 : Int) ≤ k := Int.natCast_nonneg k
    have hrow := map_getD cIn hgx
    have hxm := List.mem_of_getElem? hgx
    have er := s_IRight_at x
    cases c : rightI x
    · rw [c] at er
      have e : putI l = none := by
        unfold putI
        rw [← hr, List.all_cons, c]; rfl
      rw [e]
      (have hcondQ := Bool.and_self; refine Todo.of ?_); (repeat' (first | ((with_reducible refine Todo.to ?_); (repeat (first | (simp only [↓rP, rT, rU, eI, eU, eB, eS, eBs, eL, eA, buildCells, sepsD, sepB, hdl, dvalX, DOp.kind, dval, frameFrom, dBin, dInt, dStr, dBeq, dUn, dLoad, cellsAt, retV, retL, DR.val, fzT, fzVs, fzV, fz1, DV.immB, IntKind.bits, dCallP, viewVs, viewV, view1, capVL, capV, viewL, noMemV, noMem, elemsOf, dAppend, dAppz, dStore, DV.one, alive, freezeAt, fzLL, fzL, bRow, bU, cellsOf, setFrom, DV.isU, lenMax, lenCap, Nat.reduceEqDiff, Nat.reduceAdd, ↓reduceIte, reduceCtorEq, Nat.reduceSub, Int.reduceToNat, Int.reducePow, Nat.reducePow, Int.reduceLE, Int.reduceLT, Nat.reduceLeDiff, Nat.reduceLT, Int.reduceBEq, Int.reduceBNe, Int.reduceEq, Int.reduceNe, Int.reduceAdd, Int.reduceSub, Int.reduceMul, Int.reduceNeg, Int.reduceTDiv, Int.reduceTMod, Int.reduceMod, Int.reduceDiv, Nat.reduceMul, forall_const, implies_true, d_noriaref28_Put, s_IRight_at, eIls, eIn4, eIn4s, eRows, eSs, eY, sls_len, ils_len, ils_rowsT, sls_rowsT, sls_tk0, ils_tk0, in_rowsT, in_tk0, d, k0, hrow, er, List.length_map , hcondQ]) | (simp (disch := omega) only [i64_id, u64_id, u8_id, getD_map'])))) | ((with_reducible refine And.intro ?_ ?_); · first | trivial | omega | (simp; done) | (simp; omega)) | ((first | ((with_reducible refine dwp_condI (t := ?_) ?_ (fun hcQ => ?_) (fun hcQ => ?_)); rotate_left; · rfl) | ((with_reducible refine dops_guardI (t := ?_) ?_ (fun hcQ => ?_) (fun hcQ => ?_)); rotate_left; · rfl)) <;> (have hn := hcQ; have hcondQ := hcQ) <;> (try simp only [decide_eq_true_eq, decide_eq_false_iff_not, beq_iff_eq, bne_iff_ne, ne_eq, Bool.and_eq_true, Bool.or_eq_true, Bool.not_eq_true, Bool.not_eq_false, beq_eq_false_iff_ne, bne_eq_false_iff_eq, Bool.not_eq_true', Bool.not_eq_false', Int.ofNat_lt, Int.ofNat_le, Bool.or_eq_false_iff, Bool.and_eq_false_imp, Decidable.not_not, gt_iff_lt, ge_iff_le] at hn) <;> (try (exfalso; omega)) <;> (refine Todo.of ?_)) | (((with_reducible refine dwp_condA ?_ ?_ ?_); · rfl) <;> (refine Todo.of ?_)))) <;> (try (first | (with_reducible rfl) | exact Nat.le_refl _ | exact Int.le_refl _ | assumption | omega))
      all_goals rfl
    rw [c] at er
    have hft := flat_take hgx
    have hb := hB k
    generalize (l.take k).flatMap bytesI = b at hft hb
    rw [List.all_cons, c] at hr
    have hx64 := hx x hxm
    clear hgx hd hxm
    have rng := right_rng c
    have ho := right_op c
    have hp0 := putL_length x.op.toNat 1
    have hp2 := putL_length x.a.toNat 2
    have q0 := fun t => uNum_x (b := b) t (k := x.op) (z := 1) (by omega) (.inl rfl) (by simpa using rng.1)
    have q1 : (fmI x.op).w = true → ∀ t, _ := fun h t => uNum_x (b := b ++ putL x.op.toNat 1) t (k := x.a) (z := 2) (by rw [List.length_append]; omega) (.inr rfl) (by simpa using rng.2.1 h)
    have q2' : (fmI x.op).s = true → ∀ t, _ := fun h t => uNum_x (b := b ++ putL x.op.toNat 1) t (k := x.a) (z := 1) (by rw [List.length_append]; omega) (.inl rfl) (by simpa using rng.2.2.1 h)
    have q3 : (fmI x.op).b = true → ∀ t, _ := fun h t => uNum_x (b := b ++ (putL x.op.toNat 1 ++ putL x.a.toNat 2)) t (k := x.b) (z := 1) (by rw [List.length_append, List.length_append]; omega) (.inl rfl) (by simpa using rng.2.2.2 h)
    have q4 := fun t => uInt_x (b := b ++ (putL x.op.toNat 1 ++ putL x.a.toNat 2)) t (x := x.n) (by rw [List.length_append, List.length_append]; omega) hx64.n
    clear hp0 hp2 rng c
    obtain ⟨op, a, bb, nn⟩ := x
    simp only at q0 q1 q2' q3 q4 ho hrow er
    unfold okOp at ho
    rcases ho with rfl | rfl | rfl | rfl | rfl | rfl | rfl | rfl | rfl | rfl
    all_goals first | (have q1 := q1 rfl) | skip
    all_goals first | (have q2' := q2' rfl) | skip
    all_goals first | (have q3 := q3 rfl) | skip
    all_goals simp only [Int.reduceToNat, List.length_append, List.append_assoc] at q0
    all_goals first | (simp only [Int.reduceToNat, List.length_append, List.append_assoc] at q1) | skip
    all_goals first | (simp only [Int.reduceToNat, List.length_append, List.append_assoc] at q2') | skip
    all_goals first | (simp only [Int.reduceToNat, List.length_append, List.append_assoc] at q3) | skip
    all_goals first | (simp only [Int.reduceToNat, List.length_append, List.append_assoc] at q4) | skip
    all_goals simp only [bytesI, fmI, ↓reduceIte, Int.reduceEq, Bool.false_eq_true, List.append_nil, List.nil_append, Int.reduceToNat] at hft
    all_goals (have hcondQ := Bool.and_self; refine Todo.of ?_); (repeat' (first | ((with_reducible refine Todo.to ?_); (repeat (first | (simp only [↓rP, rT, rU, eI, eU, eB, eS, eBs, eL, eA, buildCells, sepsD, sepB, hdl, dvalX, DOp.kind, dval, frameFrom, dBin, dInt, dStr, dBeq, dUn, dLoad, cellsAt, retV, retL, DR.val, fzT, fzVs, fzV, fz1, DV.immB, IntKind.bits, dCallP, viewVs, viewV, view1, capVL, capV, viewL, noMemV, noMem, elemsOf, dAppend, dAppz, dStore, DV.one, alive, freezeAt, fzLL, fzL, bRow, bU, cellsOf, setFrom, DV.isU, lenMax, lenCap, Nat.reduceEqDiff, Nat.reduceAdd, ↓reduceIte, reduceCtorEq, Nat.reduceSub, Int.reduceToNat, Int.reducePow, Nat.reducePow, Int.reduceLE, Int.reduceLT, Nat.reduceLeDiff, Nat.reduceLT, Int.reduceBEq, Int.reduceBNe, Int.reduceEq, Int.reduceNe, Int.reduceAdd, Int.reduceSub, Int.reduceMul, Int.reduceNeg, Int.reduceTDiv, Int.reduceTMod, Int.reduceMod, Int.reduceDiv, Nat.reduceMul, forall_const, implies_true, d_noriaref28_Put, s_IRight_at, eIls, eIn4, eIn4s, eRows, eSs, eY, sls_len, ils_len, ils_rowsT, sls_rowsT, sls_tk0, ils_tk0, in_rowsT, in_tk0, d, k0, hrow, er, w, q0, q1, q2', q3, q4, List.length_map, List.append_assoc , hcondQ]) | (simp (disch := omega) only [i64_id, u64_id, u8_id, getD_map'])))) | ((with_reducible refine And.intro ?_ ?_); · first | trivial | omega | (simp; done) | (simp; omega)) | ((first | ((with_reducible refine dwp_condI (t := ?_) ?_ (fun hcQ => ?_) (fun hcQ => ?_)); rotate_left; · rfl) | ((with_reducible refine dops_guardI (t := ?_) ?_ (fun hcQ => ?_) (fun hcQ => ?_)); rotate_left; · rfl)) <;> (have hn := hcQ; have hcondQ := hcQ) <;> (try simp only [decide_eq_true_eq, decide_eq_false_iff_not, beq_iff_eq, bne_iff_ne, ne_eq, Bool.and_eq_true, Bool.or_eq_true, Bool.not_eq_true, Bool.not_eq_false, beq_eq_false_iff_ne, bne_eq_false_iff_eq, Bool.not_eq_true', Bool.not_eq_false', Int.ofNat_lt, Int.ofNat_le, Bool.or_eq_false_iff, Bool.and_eq_false_imp, Decidable.not_not, gt_iff_lt, ge_iff_le] at hn) <;> (try (exfalso; omega)) <;> (refine Todo.of ?_)) | (((with_reducible refine dwp_condA ?_ ?_ ?_); · rfl) <;> (refine Todo.of ?_)))) <;> (try (first | (with_reducible rfl) | exact Nat.le_refl _ | exact Int.le_refl _ | assumption | omega))
    all_goals exact ⟨(), by simp only [cut_some, cut_none, List.map_cons, List.map_nil, get_cons, Nk.get_nil, Nat.reduceEqDiff, ↓reduceIte, Nat.succ_ne_self, DV.cut, DV.inB, DObj.cut, List.take_nil, List.take_zero, if_true, Nat.zero_ne_one, Nat.one_ne_zero, DV.inBL, Bool.and_true, Bool.true_and, reduceCtorEq, Nat.zero_lt_one, decide_true, decide_false, Nat.reduceLT, List.take_succ_cons, Int.natCast_add, Int.natCast_one, List.length_append, List.length_cons, List.length_nil, Nat.zero_add, hft, Nat.add_assoc] <;> rfl, by rw [← hr]; rfl⟩
  · have d2 : ¬ k < l.length := by omega
    have hft : (l.take k).flatMap bytesI = l.flatMap bytesI := by rw [List.take_of_length_le (by omega)]
    rw [hft]
    have hall : l.all rightI = true := by rw [← hr]; rfl
    have e : putI l = some (l.flatMap bytesI) := by
      unfold putI
      rw [hall, decide_eq_true (by omega)]; rfl
    rw [e]
    (have hcondQ := Bool.and_self; refine Todo.of ?_); (repeat' (first | ((with_reducible refine Todo.to ?_); (repeat (first | (simp only [↓rP, rT, rU, eI, eU, eB, eS, eBs, eL, eA, buildCells, sepsD, sepB, hdl, dvalX, DOp.kind, dval, frameFrom, dBin, dInt, dStr, dBeq, dUn, dLoad, cellsAt, retV, retL, DR.val, fzT, fzVs, fzV, fz1, DV.immB, IntKind.bits, dCallP, viewVs, viewV, view1, capVL, capV, viewL, noMemV, noMem, elemsOf, dAppend, dAppz, dStore, DV.one, alive, freezeAt, fzLL, fzL, bRow, bU, cellsOf, setFrom, DV.isU, lenMax, lenCap, Nat.reduceEqDiff, Nat.reduceAdd, ↓reduceIte, reduceCtorEq, Nat.reduceSub, Int.reduceToNat, Int.reducePow, Nat.reducePow, Int.reduceLE, Int.reduceLT, Nat.reduceLeDiff, Nat.reduceLT, Int.reduceBEq, Int.reduceBNe, Int.reduceEq, Int.reduceNe, Int.reduceAdd, Int.reduceSub, Int.reduceMul, Int.reduceNeg, Int.reduceTDiv, Int.reduceTMod, Int.reduceMod, Int.reduceDiv, Nat.reduceMul, forall_const, implies_true, d_noriaref28_Put, s_IRight_at, eIls, eIn4, eIn4s, eRows, eSs, eY, sls_len, ils_len, ils_rowsT, sls_rowsT, sls_tk0, ils_tk0, in_rowsT, in_tk0, d2, List.length_map , hcondQ]) | (simp (disch := omega) only [i64_id, u64_id, u8_id, getD_map'])))) | ((with_reducible refine And.intro ?_ ?_); · first | trivial | omega | (simp; done) | (simp; omega)) | ((first | ((with_reducible refine dwp_condI (t := ?_) ?_ (fun hcQ => ?_) (fun hcQ => ?_)); rotate_left; · rfl) | ((with_reducible refine dops_guardI (t := ?_) ?_ (fun hcQ => ?_) (fun hcQ => ?_)); rotate_left; · rfl)) <;> (have hn := hcQ; have hcondQ := hcQ) <;> (try simp only [decide_eq_true_eq, decide_eq_false_iff_not, beq_iff_eq, bne_iff_ne, ne_eq, Bool.and_eq_true, Bool.or_eq_true, Bool.not_eq_true, Bool.not_eq_false, beq_eq_false_iff_ne, bne_eq_false_iff_eq, Bool.not_eq_true', Bool.not_eq_false', Int.ofNat_lt, Int.ofNat_le, Bool.or_eq_false_iff, Bool.and_eq_false_imp, Decidable.not_not, gt_iff_lt, ge_iff_le] at hn) <;> (try (exfalso; omega)) <;> (refine Todo.of ?_)) | (((with_reducible refine dwp_condA ?_ ?_ ?_); · rfl) <;> (refine Todo.of ?_)))) <;> (try (first | (with_reducible rfl) | exact Nat.le_refl _ | exact Int.le_refl _ | assumption | omega))
    rw [List.take_of_length_le (by rw [bsl_length]; exact Nat.le_refl _)]
    rfl
end Go.Proofs.YtnbmpdhgejppaaaDoor

/- InstrPuts, InstrApart. -/
set_option linter.all false
set_option maxRecDepth 20000
namespace Go.Proofs.YtnbmpdhgejppaaaDoor
open Go.Nk

theorem neI_of_drop {a b : List In4} {k : Nat} {x y : In4} {r : List In4} (h : decide (x :: r = y :: b.drop (k + 1)) = decide (a = b)) (hx : x ≠ y) : a ≠ b := by
  intro e
  have : decide (a = b) = true := decide_eq_true e
  rw [this] at h
  simp only [decide_eq_true_eq, List.cons.injEq] at h
  exact hx h.1
theorem in_cells (x y : In4) : eqCells [0, 0, 0, 0] [.int .i64 x.op, .int .i64 x.a, .int .i64 x.b, .int .i64 x.n] [.int .i64 y.op, .int .i64 y.a, .int .i64 y.b, .int .i64 y.n] = some (decide (x = y)) := by
  obtain ⟨a, b, c, d⟩ := x
  obtain ⟨a', b', c', d'⟩ := y
  simp only [eqCells, if_true, In4.mk.injEq, beq_iff_eq]
  by_cases h1 : a = a' <;> by_cases h2 : b = b' <;> by_cases h3 : c = c' <;> by_cases h4 : d = d' <;> simp [h1, h2, h3, h4]
noncomputable def s_ISame : List DV → Prop × DV := spec2 eIn4s eIn4s fun a b => (a.length ≤ 1000000, .bool (decide (a = b)))
theorem s_ISame_at (a : List In4) (b : List In4) : s_ISame [.sl (a.map cIn), .sl (b.map cIn)] = (a.length ≤ 1000000, .bool (decide (a = b))) := spec2_at inj_In4s inj_In4s _ a b
theorem ok_noriaref28_Same : OkP Tryd.prog 17 s_ISame := by
  refine OkP.mk2 (ps := []) (hs := []) trivial trivial m_noriaref28_Same fun a b h => ?_
  try dsimp only at h
  have h : a.length ≤ 1000000 := h
  by_cases c : a.length = b.length
  rotate_left
  · have c2 : decide (a = b) = false := by simp; intro e; rw [e] at c; exact c rfl
    have c3 : ((a.length : Int) != (b.length : Int)) = true := by simpa using (fun e : (a.length : Int) = b.length => c (by omega))
    (have hcondQ := Bool.and_self; refine Todo.of ?_); (repeat' (first | ((with_reducible refine Todo.to ?_); (repeat (first | (simp only [↓rP, rT, rU, eI, eU, eB, eS, eBs, eL, eA, buildCells, sepsD, sepB, hdl, dvalX, DOp.kind, dval, frameFrom, dBin, dInt, dStr, dBeq, dUn, dLoad, cellsAt, retV, retL, DR.val, fzT, fzVs, fzV, fz1, DV.immB, IntKind.bits, dCallP, viewVs, viewV, view1, capVL, capV, viewL, noMemV, noMem, elemsOf, dAppend, dAppz, dStore, DV.one, alive, freezeAt, fzLL, fzL, bRow, bU, cellsOf, setFrom, DV.isU, lenMax, lenCap, Nat.reduceEqDiff, Nat.reduceAdd, ↓reduceIte, reduceCtorEq, Nat.reduceSub, Int.reduceToNat, Int.reducePow, Nat.reducePow, Int.reduceLE, Int.reduceLT, Nat.reduceLeDiff, Nat.reduceLT, Int.reduceBEq, Int.reduceBNe, Int.reduceEq, Int.reduceNe, Int.reduceAdd, Int.reduceSub, Int.reduceMul, Int.reduceNeg, Int.reduceTDiv, Int.reduceTMod, Int.reduceMod, Int.reduceDiv, Nat.reduceMul, forall_const, implies_true, d_noriaref28_Same, eIls, eIn4, eIn4s, eRows, eSs, eY, sls_len, ils_len, ils_rowsT, sls_rowsT, sls_tk0, ils_tk0, in_rowsT, in_tk0, c2, c3, List.length_map , hcondQ]) | (simp (disch := omega) only [i64_id, u64_id, u8_id, getD_map'])))) | ((with_reducible refine And.intro ?_ ?_); · first | trivial | omega | (simp; done) | (simp; omega)) | ((first | ((with_reducible refine dwp_condI (t := ?_) ?_ (fun hcQ => ?_) (fun hcQ => ?_)); rotate_left; · rfl) | ((with_reducible refine dops_guardI (t := ?_) ?_ (fun hcQ => ?_) (fun hcQ => ?_)); rotate_left; · rfl)) <;> (have hn := hcQ; have hcondQ := hcQ) <;> (try simp only [decide_eq_true_eq, decide_eq_false_iff_not, beq_iff_eq, bne_iff_ne, ne_eq, Bool.and_eq_true, Bool.or_eq_true, Bool.not_eq_true, Bool.not_eq_false, beq_eq_false_iff_ne, bne_eq_false_iff_eq, Bool.not_eq_true', Bool.not_eq_false', Int.ofNat_lt, Int.ofNat_le, Bool.or_eq_false_iff, Bool.and_eq_false_imp, Decidable.not_not, gt_iff_lt, ge_iff_le] at hn) <;> (try (exfalso; omega)) <;> (refine Todo.of ?_)) | (((with_reducible refine dwp_condA ?_ ?_ ?_); · rfl) <;> (refine Todo.of ?_)))) <;> (try (first | (with_reducible rfl) | exact Nat.le_refl _ | exact Int.le_refl _ | assumption | omega))
  have c3 : ((a.length : Int) != (b.length : Int)) = false := by simp [c]
  (have hcondQ := Bool.and_self; refine Todo.of ?_); (repeat' (first | ((with_reducible refine Todo.to ?_); (repeat (first | (simp only [↓rP, rT, rU, eI, eU, eB, eS, eBs, eL, eA, buildCells, sepsD, sepB, hdl, dvalX, DOp.kind, dval, frameFrom, dBin, dInt, dStr, dBeq, dUn, dLoad, cellsAt, retV, retL, DR.val, fzT, fzVs, fzV, fz1, DV.immB, IntKind.bits, dCallP, viewVs, viewV, view1, capVL, capV, viewL, noMemV, noMem, elemsOf, dAppend, dAppz, dStore, DV.one, alive, freezeAt, fzLL, fzL, bRow, bU, cellsOf, setFrom, DV.isU, lenMax, lenCap, Nat.reduceEqDiff, Nat.reduceAdd, ↓reduceIte, reduceCtorEq, Nat.reduceSub, Int.reduceToNat, Int.reducePow, Nat.reducePow, Int.reduceLE, Int.reduceLT, Nat.reduceLeDiff, Nat.reduceLT, Int.reduceBEq, Int.reduceBNe, Int.reduceEq, Int.reduceNe, Int.reduceAdd, Int.reduceSub, Int.reduceMul, Int.reduceNeg, Int.reduceTDiv, Int.reduceTMod, Int.reduceMod, Int.reduceDiv, Nat.reduceMul, forall_const, implies_true, d_noriaref28_Same, eIls, eIn4, eIn4s, eRows, eSs, eY, sls_len, ils_len, ils_rowsT, sls_rowsT, sls_tk0, ils_tk0, in_rowsT, in_tk0, c3, List.length_map , hcondQ]) | (simp (disch := omega) only [i64_id, u64_id, u8_id, getD_map'])))) | ((with_reducible refine And.intro ?_ ?_); · first | trivial | omega | (simp; done) | (simp; omega)) | ((first | ((with_reducible refine dwp_condI (t := ?_) ?_ (fun hcQ => ?_) (fun hcQ => ?_)); rotate_left; · rfl) | ((with_reducible refine dops_guardI (t := ?_) ?_ (fun hcQ => ?_) (fun hcQ => ?_)); rotate_left; · rfl)) <;> (have hn := hcQ; have hcondQ := hcQ) <;> (try simp only [decide_eq_true_eq, decide_eq_false_iff_not, beq_iff_eq, bne_iff_ne, ne_eq, Bool.and_eq_true, Bool.or_eq_true, Bool.not_eq_true, Bool.not_eq_false, beq_eq_false_iff_ne, bne_eq_false_iff_eq, Bool.not_eq_true', Bool.not_eq_false', Int.ofNat_lt, Int.ofNat_le, Bool.or_eq_false_iff, Bool.and_eq_false_imp, Decidable.not_not, gt_iff_lt, ge_iff_le] at hn) <;> (try (exfalso; omega)) <;> (refine Todo.of ?_)) | (((with_reducible refine dwp_condA ?_ ?_ ?_); · rfl) <;> (refine Todo.of ?_)))) <;> (try (first | (with_reducible rfl) | exact Nat.le_refl _ | exact Int.le_refl _ | assumption | omega))
  refine dwp_each a (fun k (_ : Unit) => ⟨[(0, .sl (a.map cIn)), (1, .sl (b.map cIn)), (5, .int .i64 k)], []⟩) (fun k r _ => decide (r = b.drop k) = decide (a = b)) () (Nat.zero_le _) (by simp only [cut_some, cut_none, List.map_cons, List.map_nil, get_cons, Nk.get_nil, Nat.reduceEqDiff, ↓reduceIte, Nat.succ_ne_self, DV.cut, DV.inB, DObj.cut, List.take_nil, List.take_zero, if_true, Nat.zero_ne_one, Nat.one_ne_zero, DV.inBL, Bool.and_true, Bool.true_and, reduceCtorEq, Nat.zero_lt_one, decide_true, decide_false, Nat.reduceLT, List.take_succ_cons, Int.natCast_add, Int.natCast_one, List.length_append, List.length_cons, List.length_nil, Nat.zero_add] <;> rfl) rfl (fun k x r _ d hx hd hr => ?_) (fun k _ e hr => ?_)
  · obtain ⟨y, hy, hy2⟩ := drop_at b (k := k) (by omega)
    rw [hy2] at hr
    have d2 : k < b.length := by omega
    have w : IntKind.i64.wrap ((k : Int) + 1) = ((k + 1 : Nat) : Int) := by rw [wrap_i64_id (by omega)]; omega
    have k0 : (0 : Int) ≤ k := Int.natCast_nonneg k
    have r1 := map_getD cIn hx
    have r2 := map_getD cIn hy
    have ec := in_cells x y
    by_cases q : x = y
    · rw [decide_eq_true q] at ec
      (have hcondQ := Bool.and_self; refine Todo.of ?_); (repeat' (first | ((with_reducible refine Todo.to ?_); (repeat (first | (simp only [↓rP, rT, rU, eI, eU, eB, eS, eBs, eL, eA, buildCells, sepsD, sepB, hdl, dvalX, DOp.kind, dval, frameFrom, dBin, dInt, dStr, dBeq, dUn, dLoad, cellsAt, retV, retL, DR.val, fzT, fzVs, fzV, fz1, DV.immB, IntKind.bits, dCallP, viewVs, viewV, view1, capVL, capV, viewL, noMemV, noMem, elemsOf, dAppend, dAppz, dStore, DV.one, alive, freezeAt, fzLL, fzL, bRow, bU, cellsOf, setFrom, DV.isU, lenMax, lenCap, Nat.reduceEqDiff, Nat.reduceAdd, ↓reduceIte, reduceCtorEq, Nat.reduceSub, Int.reduceToNat, Int.reducePow, Nat.reducePow, Int.reduceLE, Int.reduceLT, Nat.reduceLeDiff, Nat.reduceLT, Int.reduceBEq, Int.reduceBNe, Int.reduceEq, Int.reduceNe, Int.reduceAdd, Int.reduceSub, Int.reduceMul, Int.reduceNeg, Int.reduceTDiv, Int.reduceTMod, Int.reduceMod, Int.reduceDiv, Nat.reduceMul, forall_const, implies_true, d_noriaref28_Same, eIls, eIn4, eIn4s, eRows, eSs, eY, sls_len, ils_len, ils_rowsT, sls_rowsT, sls_tk0, ils_tk0, in_rowsT, in_tk0, d, d2, r1, r2, ec, w, k0, dAeq, List.length_map , hcondQ]) | (simp (disch := omega) only [i64_id, u64_id, u8_id, getD_map'])))) | ((with_reducible refine And.intro ?_ ?_); · first | trivial | omega | (simp; done) | (simp; omega)) | ((first | ((with_reducible refine dwp_condI (t := ?_) ?_ (fun hcQ => ?_) (fun hcQ => ?_)); rotate_left; · rfl) | ((with_reducible refine dops_guardI (t := ?_) ?_ (fun hcQ => ?_) (fun hcQ => ?_)); rotate_left; · rfl)) <;> (have hn := hcQ; have hcondQ := hcQ) <;> (try simp only [decide_eq_true_eq, decide_eq_false_iff_not, beq_iff_eq, bne_iff_ne, ne_eq, Bool.and_eq_true, Bool.or_eq_true, Bool.not_eq_true, Bool.not_eq_false, beq_eq_false_iff_ne, bne_eq_false_iff_eq, Bool.not_eq_true', Bool.not_eq_false', Int.ofNat_lt, Int.ofNat_le, Bool.or_eq_false_iff, Bool.and_eq_false_imp, Decidable.not_not, gt_iff_lt, ge_iff_le] at hn) <;> (try (exfalso; omega)) <;> (refine Todo.of ?_)) | (((with_reducible refine dwp_condA ?_ ?_ ?_); · rfl) <;> (refine Todo.of ?_)))) <;> (try (first | (with_reducible rfl) | exact Nat.le_refl _ | exact Int.le_refl _ | assumption | omega))
      exact ⟨(), by simp only [cut_some, cut_none, List.map_cons, List.map_nil, get_cons, Nk.get_nil, Nat.reduceEqDiff, ↓reduceIte, Nat.succ_ne_self, DV.cut, DV.inB, DObj.cut, List.take_nil, List.take_zero, if_true, Nat.zero_ne_one, Nat.one_ne_zero, DV.inBL, Bool.and_true, Bool.true_and, reduceCtorEq, Nat.zero_lt_one, decide_true, decide_false, Nat.reduceLT, List.take_succ_cons, Int.natCast_add, Int.natCast_one, List.length_append, List.length_cons, List.length_nil, Nat.zero_add] <;> rfl, by rw [← hr]; simp [q]⟩
    · have c2 : decide (a = b) = false := decide_eq_false (neI_of_drop hr q)
      rw [decide_eq_false q] at ec
      rw [c2]
      (have hcondQ := Bool.and_self; refine Todo.of ?_); (repeat' (first | ((with_reducible refine Todo.to ?_); (repeat (first | (simp only [↓rP, rT, rU, eI, eU, eB, eS, eBs, eL, eA, buildCells, sepsD, sepB, hdl, dvalX, DOp.kind, dval, frameFrom, dBin, dInt, dStr, dBeq, dUn, dLoad, cellsAt, retV, retL, DR.val, fzT, fzVs, fzV, fz1, DV.immB, IntKind.bits, dCallP, viewVs, viewV, view1, capVL, capV, viewL, noMemV, noMem, elemsOf, dAppend, dAppz, dStore, DV.one, alive, freezeAt, fzLL, fzL, bRow, bU, cellsOf, setFrom, DV.isU, lenMax, lenCap, Nat.reduceEqDiff, Nat.reduceAdd, ↓reduceIte, reduceCtorEq, Nat.reduceSub, Int.reduceToNat, Int.reducePow, Nat.reducePow, Int.reduceLE, Int.reduceLT, Nat.reduceLeDiff, Nat.reduceLT, Int.reduceBEq, Int.reduceBNe, Int.reduceEq, Int.reduceNe, Int.reduceAdd, Int.reduceSub, Int.reduceMul, Int.reduceNeg, Int.reduceTDiv, Int.reduceTMod, Int.reduceMod, Int.reduceDiv, Nat.reduceMul, forall_const, implies_true, d_noriaref28_Same, eIls, eIn4, eIn4s, eRows, eSs, eY, sls_len, ils_len, ils_rowsT, sls_rowsT, sls_tk0, ils_tk0, in_rowsT, in_tk0, d, d2, r1, r2, ec, k0, dAeq, List.length_map , hcondQ]) | (simp (disch := omega) only [i64_id, u64_id, u8_id, getD_map'])))) | ((with_reducible refine And.intro ?_ ?_); · first | trivial | omega | (simp; done) | (simp; omega)) | ((first | ((with_reducible refine dwp_condI (t := ?_) ?_ (fun hcQ => ?_) (fun hcQ => ?_)); rotate_left; · rfl) | ((with_reducible refine dops_guardI (t := ?_) ?_ (fun hcQ => ?_) (fun hcQ => ?_)); rotate_left; · rfl)) <;> (have hn := hcQ; have hcondQ := hcQ) <;> (try simp only [decide_eq_true_eq, decide_eq_false_iff_not, beq_iff_eq, bne_iff_ne, ne_eq, Bool.and_eq_true, Bool.or_eq_true, Bool.not_eq_true, Bool.not_eq_false, beq_eq_false_iff_ne, bne_eq_false_iff_eq, Bool.not_eq_true', Bool.not_eq_false', Int.ofNat_lt, Int.ofNat_le, Bool.or_eq_false_iff, Bool.and_eq_false_imp, Decidable.not_not, gt_iff_lt, ge_iff_le] at hn) <;> (try (exfalso; omega)) <;> (refine Todo.of ?_)) | (((with_reducible refine dwp_condA ?_ ?_ ?_); · rfl) <;> (refine Todo.of ?_)))) <;> (try (first | (with_reducible rfl) | exact Nat.le_refl _ | exact Int.le_refl _ | assumption | omega))
  · rw [List.drop_of_length_le (by omega)] at hr
    have d2 : ¬ k < a.length := by omega
    rw [← hr]
    (have hcondQ := Bool.and_self; refine Todo.of ?_); (repeat' (first | ((with_reducible refine Todo.to ?_); (repeat (first | (simp only [↓rP, rT, rU, eI, eU, eB, eS, eBs, eL, eA, buildCells, sepsD, sepB, hdl, dvalX, DOp.kind, dval, frameFrom, dBin, dInt, dStr, dBeq, dUn, dLoad, cellsAt, retV, retL, DR.val, fzT, fzVs, fzV, fz1, DV.immB, IntKind.bits, dCallP, viewVs, viewV, view1, capVL, capV, viewL, noMemV, noMem, elemsOf, dAppend, dAppz, dStore, DV.one, alive, freezeAt, fzLL, fzL, bRow, bU, cellsOf, setFrom, DV.isU, lenMax, lenCap, Nat.reduceEqDiff, Nat.reduceAdd, ↓reduceIte, reduceCtorEq, Nat.reduceSub, Int.reduceToNat, Int.reducePow, Nat.reducePow, Int.reduceLE, Int.reduceLT, Nat.reduceLeDiff, Nat.reduceLT, Int.reduceBEq, Int.reduceBNe, Int.reduceEq, Int.reduceNe, Int.reduceAdd, Int.reduceSub, Int.reduceMul, Int.reduceNeg, Int.reduceTDiv, Int.reduceTMod, Int.reduceMod, Int.reduceDiv, Nat.reduceMul, forall_const, implies_true, d_noriaref28_Same, eIls, eIn4, eIn4s, eRows, eSs, eY, sls_len, ils_len, ils_rowsT, sls_rowsT, sls_tk0, ils_tk0, in_rowsT, in_tk0, d2, List.length_map , hcondQ]) | (simp (disch := omega) only [i64_id, u64_id, u8_id, getD_map'])))) | ((with_reducible refine And.intro ?_ ?_); · first | trivial | omega | (simp; done) | (simp; omega)) | ((first | ((with_reducible refine dwp_condI (t := ?_) ?_ (fun hcQ => ?_) (fun hcQ => ?_)); rotate_left; · rfl) | ((with_reducible refine dops_guardI (t := ?_) ?_ (fun hcQ => ?_) (fun hcQ => ?_)); rotate_left; · rfl)) <;> (have hn := hcQ; have hcondQ := hcQ) <;> (try simp only [decide_eq_true_eq, decide_eq_false_iff_not, beq_iff_eq, bne_iff_ne, ne_eq, Bool.and_eq_true, Bool.or_eq_true, Bool.not_eq_true, Bool.not_eq_false, beq_eq_false_iff_ne, bne_eq_false_iff_eq, Bool.not_eq_true', Bool.not_eq_false', Int.ofNat_lt, Int.ofNat_le, Bool.or_eq_false_iff, Bool.and_eq_false_imp, Decidable.not_not, gt_iff_lt, ge_iff_le] at hn) <;> (try (exfalso; omega)) <;> (refine Todo.of ?_)) | (((with_reducible refine dwp_condA ?_ ?_ ?_); · rfl) <;> (refine Todo.of ?_)))) <;> (try (first | (with_reducible rfl) | exact Nat.le_refl _ | exact Int.le_refl _ | assumption | omega))
noncomputable def s_liveI : List DV → Prop × DV := spec0 (True, .bool true)
theorem s_liveI_at : s_liveI [] = (True, .bool true) := spec0_at _
def x0 : In4 := ⟨1, 1, 0, -1⟩
theorem x0_ok : ok64 x0 := ⟨⟨by decide, by decide⟩, ⟨by decide, by decide⟩, ⟨by decide, by decide⟩⟩
theorem x0_put : putI [x0] = some [1, 0, 1, 1, 255] := by decide +kernel
theorem x0_text : textI x0 = [112, 117, 115, 104, 32, 49, 32, 45, 49] := by
  have e1 : Lib.itoa 1 = [49] := by simp [Lib.itoa, Lib.decDigits_one]
  have e2 : Lib.itoa (-1) = [45, 49] := by simp [Lib.itoa, Lib.decDigits_one]
  have e3 : partsI x0 = [[112, 117, 115, 104], [49], [45, 49]] := by
    simp [partsI, fmI, x0, e1, e2]
  have e4 : rightI x0 = true := by decide
  simp [textI, e4, e3, join3]
theorem fSame_at (l l' : List UInt8) : specB2 fSame [.sl (bsl l), .sl (bsl l')] = (small l ∧ small l', .bool (l == l')) := specB2_at _ _ _
theorem ok_live28 : OkP Tryd.prog 7 s_liveI := by
  refine OkP.mk0 (ps := [(12, s_IPut), (10, s_IText), (14, specB2 fSame)]) (hs := []) ⟨ok_instr_Put, ok_instr_Text, ok_noriaref01_Same, trivial⟩ trivial m_norialaw28_live fun _ => ?_
  have e1 := s_IPut_at [x0]
  rw [eq_true (show okIns [x0] from ⟨by decide, fun x hx => by rw [List.mem_singleton] at hx; subst hx; exact x0_ok⟩), x0_put] at e1
  have e2 := s_IText_at x0
  rw [eq_true x0_ok, x0_text] at e2
  have e3 : specB2 fSame [.sl (bsl [1, 0, 1, 1, 255]), .sl (bsl [1, 0, 1, 1, 255])] = (True, .bool true) := by
    rw [fSame_at, eq_true (show small [1, 0, 1, 1, 255] ∧ small [1, 0, 1, 1, 255] from ⟨by unfold small; decide, by unfold small; decide⟩)]
    rfl
  simp only [cIn, x0, List.map_cons, List.map_nil, putV, Option.getD_some, Option.isSome_some] at e1 e2
  have hb : bsl [1, 0, 1, 1, 255] = [[.int .u8 1], [.int .u8 0], [.int .u8 1], [.int .u8 1], [.int .u8 255]] := rfl
  rw [hb] at e1 e3
  
  (have hcondQ := Bool.and_self; refine Todo.of ?_); (repeat' (first | ((with_reducible refine Todo.to ?_); (repeat (first | (simp only [↓rP, rT, rU, eI, eU, eB, eS, eBs, eL, eA, buildCells, sepsD, sepB, hdl, dvalX, DOp.kind, dval, frameFrom, dBin, dInt, dStr, dBeq, dUn, dLoad, cellsAt, retV, retL, DR.val, fzT, fzVs, fzV, fz1, DV.immB, IntKind.bits, dCallP, viewVs, viewV, view1, capVL, capV, viewL, noMemV, noMem, elemsOf, dAppend, dAppz, dStore, DV.one, alive, freezeAt, fzLL, fzL, bRow, bU, cellsOf, setFrom, DV.isU, lenMax, lenCap, Nat.reduceEqDiff, Nat.reduceAdd, ↓reduceIte, reduceCtorEq, Nat.reduceSub, Int.reduceToNat, Int.reducePow, Nat.reducePow, Int.reduceLE, Int.reduceLT, Nat.reduceLeDiff, Nat.reduceLT, Int.reduceBEq, Int.reduceBNe, Int.reduceEq, Int.reduceNe, Int.reduceAdd, Int.reduceSub, Int.reduceMul, Int.reduceNeg, Int.reduceTDiv, Int.reduceTMod, Int.reduceMod, Int.reduceDiv, Nat.reduceMul, forall_const, implies_true, d_norialaw28_live, s_IPut_at, s_IText_at, eIls, eIn4, eIn4s, eRows, eSs, eY, sls_len, ils_len, ils_rowsT, sls_rowsT, sls_tk0, ils_tk0, in_rowsT, in_tk0, e1, e2, e3, beq_self_eq_true , hcondQ]) | (simp (disch := omega) only [i64_id, u64_id, u8_id, getD_map'])))) | ((with_reducible refine And.intro ?_ ?_); · first | trivial | omega | (simp; done) | (simp; omega)) | ((first | ((with_reducible refine dwp_condI (t := ?_) ?_ (fun hcQ => ?_) (fun hcQ => ?_)); rotate_left; · rfl) | ((with_reducible refine dops_guardI (t := ?_) ?_ (fun hcQ => ?_) (fun hcQ => ?_)); rotate_left; · rfl)) <;> (have hn := hcQ; have hcondQ := hcQ) <;> (try simp only [decide_eq_true_eq, decide_eq_false_iff_not, beq_iff_eq, bne_iff_ne, ne_eq, Bool.and_eq_true, Bool.or_eq_true, Bool.not_eq_true, Bool.not_eq_false, beq_eq_false_iff_ne, bne_eq_false_iff_eq, Bool.not_eq_true', Bool.not_eq_false', Int.ofNat_lt, Int.ofNat_le, Bool.or_eq_false_iff, Bool.and_eq_false_imp, Decidable.not_not, gt_iff_lt, ge_iff_le] at hn) <;> (try (exfalso; omega)) <;> (refine Todo.of ?_)) | (((with_reducible refine dwp_condA ?_ ?_ ?_); · rfl) <;> (refine Todo.of ?_)))) <;> (try (first | (with_reducible rfl) | exact Nat.le_refl _ | exact Int.le_refl _ | assumption | omega))
noncomputable def s_lawPuts : List DV → Prop × DV := spec1 eIn4s fun l => (∀ x ∈ l, ok64 x, .bool true)
theorem s_lawPuts_at (l : List In4) : s_lawPuts [.sl (l.map cIn)] = (∀ x ∈ l, ok64 x, .bool true) := spec1_at inj_In4s _ l
theorem and_bb (b : Bool) : (b == b) = true := by cases b <;> rfl
theorem ne_bb (b : Bool) : (b != b) = false := by cases b <;> rfl
theorem ok_norialaw28_InstrPuts : OkP Tryd.prog 3 s_lawPuts := by
  refine OkP.mk1 (ps := [(7, s_liveI), (8, s_IRight), (9, s_IRight), (10, s_IText), (11, s_IText), (12, s_IPut), (13, s_IPut), (14, specB2 fSame)]) (hs := [])
    ⟨ok_live28, ok_instr_Right, ok_noriaref28_Right, ok_instr_Text, ok_noriaref28_Text, ok_instr_Put, ok_noriaref28_Put, ok_noriaref01_Same, trivial⟩ trivial m_norialaw28_InstrPuts fun l h => ?_
  have h : ∀ x ∈ l, ok64 x := h
  
  by_cases q : 300 < l.length
  · have q2 : (300 : Int) < l.length := by omega
    (have hcondQ := Bool.and_self; refine Todo.of ?_); (repeat' (first | ((with_reducible refine Todo.to ?_); (repeat (first | (simp only [↓rP, rT, rU, eI, eU, eB, eS, eBs, eL, eA, buildCells, sepsD, sepB, hdl, dvalX, DOp.kind, dval, frameFrom, dBin, dInt, dStr, dBeq, dUn, dLoad, cellsAt, retV, retL, DR.val, fzT, fzVs, fzV, fz1, DV.immB, IntKind.bits, dCallP, viewVs, viewV, view1, capVL, capV, viewL, noMemV, noMem, elemsOf, dAppend, dAppz, dStore, DV.one, alive, freezeAt, fzLL, fzL, bRow, bU, cellsOf, setFrom, DV.isU, lenMax, lenCap, Nat.reduceEqDiff, Nat.reduceAdd, ↓reduceIte, reduceCtorEq, Nat.reduceSub, Int.reduceToNat, Int.reducePow, Nat.reducePow, Int.reduceLE, Int.reduceLT, Nat.reduceLeDiff, Nat.reduceLT, Int.reduceBEq, Int.reduceBNe, Int.reduceEq, Int.reduceNe, Int.reduceAdd, Int.reduceSub, Int.reduceMul, Int.reduceNeg, Int.reduceTDiv, Int.reduceTMod, Int.reduceMod, Int.reduceDiv, Nat.reduceMul, forall_const, implies_true, d_norialaw28_InstrPuts, s_IRight_at, s_IText_at, s_IPut_at, eIls, eIn4, eIn4s, eRows, eSs, eY, sls_len, ils_len, ils_rowsT, sls_rowsT, sls_tk0, ils_tk0, in_rowsT, in_tk0, q2, s_liveI_at, List.length_map , hcondQ]) | (simp (disch := omega) only [i64_id, u64_id, u8_id, getD_map'])))) | ((with_reducible refine And.intro ?_ ?_); · first | trivial | omega | (simp; done) | (simp; omega)) | ((first | ((with_reducible refine dwp_condI (t := ?_) ?_ (fun hcQ => ?_) (fun hcQ => ?_)); rotate_left; · rfl) | ((with_reducible refine dops_guardI (t := ?_) ?_ (fun hcQ => ?_) (fun hcQ => ?_)); rotate_left; · rfl)) <;> (have hn := hcQ; have hcondQ := hcQ) <;> (try simp only [decide_eq_true_eq, decide_eq_false_iff_not, beq_iff_eq, bne_iff_ne, ne_eq, Bool.and_eq_true, Bool.or_eq_true, Bool.not_eq_true, Bool.not_eq_false, beq_eq_false_iff_ne, bne_eq_false_iff_eq, Bool.not_eq_true', Bool.not_eq_false', Int.ofNat_lt, Int.ofNat_le, Bool.or_eq_false_iff, Bool.and_eq_false_imp, Decidable.not_not, gt_iff_lt, ge_iff_le] at hn) <;> (try (exfalso; omega)) <;> (refine Todo.of ?_)) | (((with_reducible refine dwp_condA ?_ ?_ ?_); · rfl) <;> (refine Todo.of ?_)))) <;> (try (first | (with_reducible rfl) | exact Nat.le_refl _ | exact Int.le_refl _ | assumption | omega))
  have q2 : ¬ (300 : Int) < l.length := by omega
  (have hcondQ := Bool.and_self; refine Todo.of ?_); (repeat' (first | ((with_reducible refine Todo.to ?_); (repeat (first | (simp only [↓rP, rT, rU, eI, eU, eB, eS, eBs, eL, eA, buildCells, sepsD, sepB, hdl, dvalX, DOp.kind, dval, frameFrom, dBin, dInt, dStr, dBeq, dUn, dLoad, cellsAt, retV, retL, DR.val, fzT, fzVs, fzV, fz1, DV.immB, IntKind.bits, dCallP, viewVs, viewV, view1, capVL, capV, viewL, noMemV, noMem, elemsOf, dAppend, dAppz, dStore, DV.one, alive, freezeAt, fzLL, fzL, bRow, bU, cellsOf, setFrom, DV.isU, lenMax, lenCap, Nat.reduceEqDiff, Nat.reduceAdd, ↓reduceIte, reduceCtorEq, Nat.reduceSub, Int.reduceToNat, Int.reducePow, Nat.reducePow, Int.reduceLE, Int.reduceLT, Nat.reduceLeDiff, Nat.reduceLT, Int.reduceBEq, Int.reduceBNe, Int.reduceEq, Int.reduceNe, Int.reduceAdd, Int.reduceSub, Int.reduceMul, Int.reduceNeg, Int.reduceTDiv, Int.reduceTMod, Int.reduceMod, Int.reduceDiv, Nat.reduceMul, forall_const, implies_true, d_norialaw28_InstrPuts, s_IRight_at, s_IText_at, s_IPut_at, eIls, eIn4, eIn4s, eRows, eSs, eY, sls_len, ils_len, ils_rowsT, sls_rowsT, sls_tk0, ils_tk0, in_rowsT, in_tk0, q2, List.length_map , hcondQ]) | (simp (disch := omega) only [i64_id, u64_id, u8_id, getD_map'])))) | ((with_reducible refine And.intro ?_ ?_); · first | trivial | omega | (simp; done) | (simp; omega)) | ((first | ((with_reducible refine dwp_condI (t := ?_) ?_ (fun hcQ => ?_) (fun hcQ => ?_)); rotate_left; · rfl) | ((with_reducible refine dops_guardI (t := ?_) ?_ (fun hcQ => ?_) (fun hcQ => ?_)); rotate_left; · rfl)) <;> (have hn := hcQ; have hcondQ := hcQ) <;> (try simp only [decide_eq_true_eq, decide_eq_false_iff_not, beq_iff_eq, bne_iff_ne, ne_eq, Bool.and_eq_true, Bool.or_eq_true, Bool.not_eq_true, Bool.not_eq_false, beq_eq_false_iff_ne, bne_eq_false_iff_eq, Bool.not_eq_true', Bool.not_eq_false', Int.ofNat_lt, Int.ofNat_le, Bool.or_eq_false_iff, Bool.and_eq_false_imp, Decidable.not_not, gt_iff_lt, ge_iff_le] at hn) <;> (try (exfalso; omega)) <;> (refine Todo.of ?_)) | (((with_reducible refine dwp_condA ?_ ?_ ?_); · rfl) <;> (refine Todo.of ?_)))) <;> (try (first | (with_reducible rfl) | exact Nat.le_refl _ | exact Int.le_refl _ | assumption | omega))
  refine dwp_each l (fun k (_ : Unit) => ⟨[(0, .sl (l.map cIn)), (3, .int .i64 k)], []⟩) (fun _ _ _ => True) () (Nat.zero_le _) (by simp only [cut_some, cut_none, List.map_cons, List.map_nil, get_cons, Nk.get_nil, Nat.reduceEqDiff, ↓reduceIte, Nat.succ_ne_self, DV.cut, DV.inB, DObj.cut, List.take_nil, List.take_zero, if_true, Nat.zero_ne_one, Nat.one_ne_zero, DV.inBL, Bool.and_true, Bool.true_and, reduceCtorEq, Nat.zero_lt_one, decide_true, decide_false, Nat.reduceLT, List.take_succ_cons, Int.natCast_add, Int.natCast_one, List.length_append, List.length_cons, List.length_nil, Nat.zero_add] <;> rfl) trivial (fun k x r _ d hx hd hr => ?_) (fun k _ e hr => ?_)
  · have w : IntKind.i64.wrap ((k : Int) + 1) = ((k + 1 : Nat) : Int) := by rw [wrap_i64_id (by omega)]; omega
    have k0 : (0 : Int) ≤ k := Int.natCast_nonneg k
    have r1 := map_getD cIn hx
    have hxm := List.mem_of_getElem? hx
    have e1 := s_IRight_at x
    have e2 := s_IText_at x
    rw [eq_true (h x hxm)] at e2
    generalize rightI x = a at e1
    generalize textI x = b at e2
    have ha := ne_bb a
    (have hcondQ := Bool.and_self; refine Todo.of ?_); (repeat' (first | ((with_reducible refine Todo.to ?_); (repeat (first | (simp only [↓rP, rT, rU, eI, eU, eB, eS, eBs, eL, eA, buildCells, sepsD, sepB, hdl, dvalX, DOp.kind, dval, frameFrom, dBin, dInt, dStr, dBeq, dUn, dLoad, cellsAt, retV, retL, DR.val, fzT, fzVs, fzV, fz1, DV.immB, IntKind.bits, dCallP, viewVs, viewV, view1, capVL, capV, viewL, noMemV, noMem, elemsOf, dAppend, dAppz, dStore, DV.one, alive, freezeAt, fzLL, fzL, bRow, bU, cellsOf, setFrom, DV.isU, lenMax, lenCap, Nat.reduceEqDiff, Nat.reduceAdd, ↓reduceIte, reduceCtorEq, Nat.reduceSub, Int.reduceToNat, Int.reducePow, Nat.reducePow, Int.reduceLE, Int.reduceLT, Nat.reduceLeDiff, Nat.reduceLT, Int.reduceBEq, Int.reduceBNe, Int.reduceEq, Int.reduceNe, Int.reduceAdd, Int.reduceSub, Int.reduceMul, Int.reduceNeg, Int.reduceTDiv, Int.reduceTMod, Int.reduceMod, Int.reduceDiv, Nat.reduceMul, forall_const, implies_true, d_norialaw28_InstrPuts, s_IRight_at, s_IText_at, s_IPut_at, eIls, eIn4, eIn4s, eRows, eSs, eY, sls_len, ils_len, ils_rowsT, sls_rowsT, sls_tk0, ils_tk0, in_rowsT, in_tk0, d, r1, e1, e2, ha, w, k0, List.length_map, bne_self_eq_false , hcondQ]) | (simp (disch := omega) only [i64_id, u64_id, u8_id, getD_map'])))) | ((with_reducible refine And.intro ?_ ?_); · first | trivial | omega | (simp; done) | (simp; omega)) | ((first | ((with_reducible refine dwp_condI (t := ?_) ?_ (fun hcQ => ?_) (fun hcQ => ?_)); rotate_left; · rfl) | ((with_reducible refine dops_guardI (t := ?_) ?_ (fun hcQ => ?_) (fun hcQ => ?_)); rotate_left; · rfl)) <;> (have hn := hcQ; have hcondQ := hcQ) <;> (try simp only [decide_eq_true_eq, decide_eq_false_iff_not, beq_iff_eq, bne_iff_ne, ne_eq, Bool.and_eq_true, Bool.or_eq_true, Bool.not_eq_true, Bool.not_eq_false, beq_eq_false_iff_ne, bne_eq_false_iff_eq, Bool.not_eq_true', Bool.not_eq_false', Int.ofNat_lt, Int.ofNat_le, Bool.or_eq_false_iff, Bool.and_eq_false_imp, Decidable.not_not, gt_iff_lt, ge_iff_le] at hn) <;> (try (exfalso; omega)) <;> (refine Todo.of ?_)) | (((with_reducible refine dwp_condA ?_ ?_ ?_); · rfl) <;> (refine Todo.of ?_)))) <;> (try (first | (with_reducible rfl) | exact Nat.le_refl _ | exact Int.le_refl _ | assumption | omega))
    all_goals first | omega | exact ⟨(), trivial⟩ | exact ⟨(), by simp only [cut_some, cut_none, List.map_cons, List.map_nil, get_cons, Nk.get_nil, Nat.reduceEqDiff, ↓reduceIte, Nat.succ_ne_self, DV.cut, DV.inB, DObj.cut, List.take_nil, List.take_zero, if_true, Nat.zero_ne_one, Nat.one_ne_zero, DV.inBL, Bool.and_true, Bool.true_and, reduceCtorEq, Nat.zero_lt_one, decide_true, decide_false, Nat.reduceLT, List.take_succ_cons, Int.natCast_add, Int.natCast_one, List.length_append, List.length_cons, List.length_nil, Nat.zero_add] <;> rfl⟩
  · have d2 : ¬ k < l.length := by omega
    have e1 := s_IPut_at l
    rw [eq_true (show okIns l from ⟨by omega, h⟩)] at e1
    have hs : ∀ b : List UInt8, b.length ≤ 1400000 → specB2 fSame [.sl (bsl b), .sl (bsl b)] = (True, .bool true) := fun b hb => by
      rw [fSame_at, eq_true (show small b ∧ small b from ⟨by unfold small; omega, by unfold small; omega⟩), beq_self_eq_true]
    have hpl : ((putI l).getD []).length ≤ 1400000 := by
      have := (flat_len l).1
      unfold putI
      split
      · simp only [Option.getD_some]; omega
      · simp
    have e3 := hs _ hpl
    simp only [putV] at e1
    generalize (putI l).getD [] = b at e1 e3
    generalize (putI l).isSome = o at e1
    have ho := and_bb o
    (have hcondQ := Bool.and_self; refine Todo.of ?_); (repeat' (first | ((with_reducible refine Todo.to ?_); (repeat (first | (simp only [↓rP, rT, rU, eI, eU, eB, eS, eBs, eL, eA, buildCells, sepsD, sepB, hdl, dvalX, DOp.kind, dval, frameFrom, dBin, dInt, dStr, dBeq, dUn, dLoad, cellsAt, retV, retL, DR.val, fzT, fzVs, fzV, fz1, DV.immB, IntKind.bits, dCallP, viewVs, viewV, view1, capVL, capV, viewL, noMemV, noMem, elemsOf, dAppend, dAppz, dStore, DV.one, alive, freezeAt, fzLL, fzL, bRow, bU, cellsOf, setFrom, DV.isU, lenMax, lenCap, Nat.reduceEqDiff, Nat.reduceAdd, ↓reduceIte, reduceCtorEq, Nat.reduceSub, Int.reduceToNat, Int.reducePow, Nat.reducePow, Int.reduceLE, Int.reduceLT, Nat.reduceLeDiff, Nat.reduceLT, Int.reduceBEq, Int.reduceBNe, Int.reduceEq, Int.reduceNe, Int.reduceAdd, Int.reduceSub, Int.reduceMul, Int.reduceNeg, Int.reduceTDiv, Int.reduceTMod, Int.reduceMod, Int.reduceDiv, Nat.reduceMul, forall_const, implies_true, d_norialaw28_InstrPuts, s_IRight_at, s_IText_at, s_IPut_at, eIls, eIn4, eIn4s, eRows, eSs, eY, sls_len, ils_len, ils_rowsT, sls_rowsT, sls_tk0, ils_tk0, in_rowsT, in_tk0, d2, e1, e3, ho, s_liveI_at, List.length_map , hcondQ]) | (simp (disch := omega) only [i64_id, u64_id, u8_id, getD_map'])))) | ((with_reducible refine And.intro ?_ ?_); · first | trivial | omega | (simp; done) | (simp; omega)) | ((first | ((with_reducible refine dwp_condI (t := ?_) ?_ (fun hcQ => ?_) (fun hcQ => ?_)); rotate_left; · rfl) | ((with_reducible refine dops_guardI (t := ?_) ?_ (fun hcQ => ?_) (fun hcQ => ?_)); rotate_left; · rfl)) <;> (have hn := hcQ; have hcondQ := hcQ) <;> (try simp only [decide_eq_true_eq, decide_eq_false_iff_not, beq_iff_eq, bne_iff_ne, ne_eq, Bool.and_eq_true, Bool.or_eq_true, Bool.not_eq_true, Bool.not_eq_false, beq_eq_false_iff_ne, bne_eq_false_iff_eq, Bool.not_eq_true', Bool.not_eq_false', Int.ofNat_lt, Int.ofNat_le, Bool.or_eq_false_iff, Bool.and_eq_false_imp, Decidable.not_not, gt_iff_lt, ge_iff_le] at hn) <;> (try (exfalso; omega)) <;> (refine Todo.of ?_)) | (((with_reducible refine dwp_condA ?_ ?_ ?_); · rfl) <;> (refine Todo.of ?_)))) <;> (try (first | (with_reducible rfl) | exact Nat.le_refl _ | exact Int.le_refl _ | assumption | omega))
noncomputable def s_lawIApart : List DV → Prop × DV := spec2 eIn4 eIn4 fun x y => (ok64 x ∧ ok64 y, .bool true)
theorem s_lawIApart_at (x : In4) (y : In4) : s_lawIApart [.agg (cIn x), .agg (cIn y)] = (ok64 x ∧ ok64 y, .bool true) := spec2_at inj_In4 inj_In4 _ x y
theorem ok_norialaw28_InstrApart : OkP Tryd.prog 4 s_lawIApart := by
  refine OkP.mk2 (ps := [(7, s_liveI), (8, s_IRight), (10, s_IText)]) (hs := [])
    ⟨ok_live28, ok_instr_Right, ok_instr_Text, trivial⟩ trivial m_norialaw28_InstrApart fun x y h => ?_
  obtain ⟨hx, hy⟩ := (show ok64 x ∧ ok64 y from h)
  have e1 := s_IRight_at x
  have e2 := s_IRight_at y
  
  cases c1 : rightI x
  · rw [c1] at e1
    (have hcondQ := Bool.and_self; refine Todo.of ?_); (repeat' (first | ((with_reducible refine Todo.to ?_); (repeat (first | (simp only [↓rP, rT, rU, eI, eU, eB, eS, eBs, eL, eA, buildCells, sepsD, sepB, hdl, dvalX, DOp.kind, dval, frameFrom, dBin, dInt, dStr, dBeq, dUn, dLoad, cellsAt, retV, retL, DR.val, fzT, fzVs, fzV, fz1, DV.immB, IntKind.bits, dCallP, viewVs, viewV, view1, capVL, capV, viewL, noMemV, noMem, elemsOf, dAppend, dAppz, dStore, DV.one, alive, freezeAt, fzLL, fzL, bRow, bU, cellsOf, setFrom, DV.isU, lenMax, lenCap, Nat.reduceEqDiff, Nat.reduceAdd, ↓reduceIte, reduceCtorEq, Nat.reduceSub, Int.reduceToNat, Int.reducePow, Nat.reducePow, Int.reduceLE, Int.reduceLT, Nat.reduceLeDiff, Nat.reduceLT, Int.reduceBEq, Int.reduceBNe, Int.reduceEq, Int.reduceNe, Int.reduceAdd, Int.reduceSub, Int.reduceMul, Int.reduceNeg, Int.reduceTDiv, Int.reduceTMod, Int.reduceMod, Int.reduceDiv, Nat.reduceMul, forall_const, implies_true, d_norialaw28_InstrApart, s_IRight_at, s_IText_at, eIls, eIn4, eIn4s, eRows, eSs, eY, sls_len, ils_len, ils_rowsT, sls_rowsT, sls_tk0, ils_tk0, in_rowsT, in_tk0, e1, s_liveI_at , hcondQ]) | (simp (disch := omega) only [i64_id, u64_id, u8_id, getD_map'])))) | ((with_reducible refine And.intro ?_ ?_); · first | trivial | omega | (simp; done) | (simp; omega)) | ((first | ((with_reducible refine dwp_condI (t := ?_) ?_ (fun hcQ => ?_) (fun hcQ => ?_)); rotate_left; · rfl) | ((with_reducible refine dops_guardI (t := ?_) ?_ (fun hcQ => ?_) (fun hcQ => ?_)); rotate_left; · rfl)) <;> (have hn := hcQ; have hcondQ := hcQ) <;> (try simp only [decide_eq_true_eq, decide_eq_false_iff_not, beq_iff_eq, bne_iff_ne, ne_eq, Bool.and_eq_true, Bool.or_eq_true, Bool.not_eq_true, Bool.not_eq_false, beq_eq_false_iff_ne, bne_eq_false_iff_eq, Bool.not_eq_true', Bool.not_eq_false', Int.ofNat_lt, Int.ofNat_le, Bool.or_eq_false_iff, Bool.and_eq_false_imp, Decidable.not_not, gt_iff_lt, ge_iff_le] at hn) <;> (try (exfalso; omega)) <;> (refine Todo.of ?_)) | (((with_reducible refine dwp_condA ?_ ?_ ?_); · rfl) <;> (refine Todo.of ?_)))) <;> (try (first | (with_reducible rfl) | exact Nat.le_refl _ | exact Int.le_refl _ | assumption | omega))
  rw [c1] at e1
  cases c2 : rightI y
  · rw [c2] at e2
    (have hcondQ := Bool.and_self; refine Todo.of ?_); (repeat' (first | ((with_reducible refine Todo.to ?_); (repeat (first | (simp only [↓rP, rT, rU, eI, eU, eB, eS, eBs, eL, eA, buildCells, sepsD, sepB, hdl, dvalX, DOp.kind, dval, frameFrom, dBin, dInt, dStr, dBeq, dUn, dLoad, cellsAt, retV, retL, DR.val, fzT, fzVs, fzV, fz1, DV.immB, IntKind.bits, dCallP, viewVs, viewV, view1, capVL, capV, viewL, noMemV, noMem, elemsOf, dAppend, dAppz, dStore, DV.one, alive, freezeAt, fzLL, fzL, bRow, bU, cellsOf, setFrom, DV.isU, lenMax, lenCap, Nat.reduceEqDiff, Nat.reduceAdd, ↓reduceIte, reduceCtorEq, Nat.reduceSub, Int.reduceToNat, Int.reducePow, Nat.reducePow, Int.reduceLE, Int.reduceLT, Nat.reduceLeDiff, Nat.reduceLT, Int.reduceBEq, Int.reduceBNe, Int.reduceEq, Int.reduceNe, Int.reduceAdd, Int.reduceSub, Int.reduceMul, Int.reduceNeg, Int.reduceTDiv, Int.reduceTMod, Int.reduceMod, Int.reduceDiv, Nat.reduceMul, forall_const, implies_true, d_norialaw28_InstrApart, s_IRight_at, s_IText_at, eIls, eIn4, eIn4s, eRows, eSs, eY, sls_len, ils_len, ils_rowsT, sls_rowsT, sls_tk0, ils_tk0, in_rowsT, in_tk0, e1, e2, s_liveI_at , hcondQ]) | (simp (disch := omega) only [i64_id, u64_id, u8_id, getD_map'])))) | ((with_reducible refine And.intro ?_ ?_); · first | trivial | omega | (simp; done) | (simp; omega)) | ((first | ((with_reducible refine dwp_condI (t := ?_) ?_ (fun hcQ => ?_) (fun hcQ => ?_)); rotate_left; · rfl) | ((with_reducible refine dops_guardI (t := ?_) ?_ (fun hcQ => ?_) (fun hcQ => ?_)); rotate_left; · rfl)) <;> (have hn := hcQ; have hcondQ := hcQ) <;> (try simp only [decide_eq_true_eq, decide_eq_false_iff_not, beq_iff_eq, bne_iff_ne, ne_eq, Bool.and_eq_true, Bool.or_eq_true, Bool.not_eq_true, Bool.not_eq_false, beq_eq_false_iff_ne, bne_eq_false_iff_eq, Bool.not_eq_true', Bool.not_eq_false', Int.ofNat_lt, Int.ofNat_le, Bool.or_eq_false_iff, Bool.and_eq_false_imp, Decidable.not_not, gt_iff_lt, ge_iff_le] at hn) <;> (try (exfalso; omega)) <;> (refine Todo.of ?_)) | (((with_reducible refine dwp_condA ?_ ?_ ?_); · rfl) <;> (refine Todo.of ?_)))) <;> (try (first | (with_reducible rfl) | exact Nat.le_refl _ | exact Int.le_refl _ | assumption | omega))
  rw [c2] at e2
  have t1 := s_IText_at x
  have t2 := s_IText_at y
  rw [eq_true hx] at t1
  rw [eq_true hy] at t2
  have hs := textI_same c1 c2
  have ec := in_cells x y
  generalize textI x = a at t1 hs
  generalize textI y = b at t2 hs
  generalize decide (x = y) = d at hs ec
  have hd := and_bb d
  (have hcondQ := Bool.and_self; refine Todo.of ?_); (repeat' (first | ((with_reducible refine Todo.to ?_); (repeat (first | (simp only [↓rP, rT, rU, eI, eU, eB, eS, eBs, eL, eA, buildCells, sepsD, sepB, hdl, dvalX, DOp.kind, dval, frameFrom, dBin, dInt, dStr, dBeq, dUn, dLoad, cellsAt, retV, retL, DR.val, fzT, fzVs, fzV, fz1, DV.immB, IntKind.bits, dCallP, viewVs, viewV, view1, capVL, capV, viewL, noMemV, noMem, elemsOf, dAppend, dAppz, dStore, DV.one, alive, freezeAt, fzLL, fzL, bRow, bU, cellsOf, setFrom, DV.isU, lenMax, lenCap, Nat.reduceEqDiff, Nat.reduceAdd, ↓reduceIte, reduceCtorEq, Nat.reduceSub, Int.reduceToNat, Int.reducePow, Nat.reducePow, Int.reduceLE, Int.reduceLT, Nat.reduceLeDiff, Nat.reduceLT, Int.reduceBEq, Int.reduceBNe, Int.reduceEq, Int.reduceNe, Int.reduceAdd, Int.reduceSub, Int.reduceMul, Int.reduceNeg, Int.reduceTDiv, Int.reduceTMod, Int.reduceMod, Int.reduceDiv, Nat.reduceMul, forall_const, implies_true, d_norialaw28_InstrApart, s_IRight_at, s_IText_at, eIls, eIn4, eIn4s, eRows, eSs, eY, sls_len, ils_len, ils_rowsT, sls_rowsT, sls_tk0, ils_tk0, in_rowsT, in_tk0, e1, e2, t1, t2, hs, ec, hd, dAeq, s_liveI_at , hcondQ]) | (simp (disch := omega) only [i64_id, u64_id, u8_id, getD_map'])))) | ((with_reducible refine And.intro ?_ ?_); · first | trivial | omega | (simp; done) | (simp; omega)) | ((first | ((with_reducible refine dwp_condI (t := ?_) ?_ (fun hcQ => ?_) (fun hcQ => ?_)); rotate_left; · rfl) | ((with_reducible refine dops_guardI (t := ?_) ?_ (fun hcQ => ?_) (fun hcQ => ?_)); rotate_left; · rfl)) <;> (have hn := hcQ; have hcondQ := hcQ) <;> (try simp only [decide_eq_true_eq, decide_eq_false_iff_not, beq_iff_eq, bne_iff_ne, ne_eq, Bool.and_eq_true, Bool.or_eq_true, Bool.not_eq_true, Bool.not_eq_false, beq_eq_false_iff_ne, bne_eq_false_iff_eq, Bool.not_eq_true', Bool.not_eq_false', Int.ofNat_lt, Int.ofNat_le, Bool.or_eq_false_iff, Bool.and_eq_false_imp, Decidable.not_not, gt_iff_lt, ge_iff_le] at hn) <;> (try (exfalso; omega)) <;> (refine Todo.of ?_)) | (((with_reducible refine dwp_condA ?_ ?_ ?_); · rfl) <;> (refine Todo.of ?_)))) <;> (try (first | (with_reducible rfl) | exact Nat.le_refl _ | exact Int.le_refl _ | assumption | omega))

/-! Every argument. -/
theorem reads_In4 : Reads (.struct [.int .i64, .int .i64, .int .i64, .int .i64]) cIn ok64 :=
  Reads.as (Reads.struct (Reads.cons Reads.int (Reads.cons Reads.int (Reads.cons Reads.int (Reads.cons Reads.int Reads.nil))))) (fun x => ⟨x.1, x.2.1, x.2.2.1, x.2.2.2.1⟩) (fun _ => rfl) (fun _ h => ⟨h.2.1, h.2.2.1, h.2.2.2.1⟩)
theorem reads_In4s : Reads (.slice (.struct [.int .i64, .int .i64, .int .i64, .int .i64])) (fun l : List In4 => [.sl (l.map cIn)]) (fun l => ∀ x ∈ l, ok64 x) :=
  Reads.as (Reads.slice reads_In4) (fun l => l) (fun _ => rfl) (fun _ h => h.2)
theorem instrPuts_tells (dvs : List DV) (h : HasAll Tryd.prog [22] dvs) : TellsP Tryd.prog 3 dvs (.bool true) := by
  obtain ⟨d1, r, rfl, h1, rfl⟩ := h
  obtain ⟨l, ha, hw⟩ := HasV_one (by kernel_rfl) rfl reads_In4s h1
  injection ha with ha
  subst ha
  have e := s_lawPuts_at l
  have := (ok_norialaw28_InstrPuts _ (by rw [e]; exact hw)).2
  rw [e] at this
  exact this
theorem instrApart_tells (dvs : List DV) (h : HasAll Tryd.prog [26, 26] dvs) : TellsP Tryd.prog 4 dvs (.bool true) := by
  obtain ⟨d1, r, rfl, h1, d2, r', rfl, h2, rfl⟩ := h
  obtain ⟨x, rfl, hx⟩ := HasV_agg (by kernel_rfl) reads_In4 h1
  obtain ⟨y, rfl, hy⟩ := HasV_agg (by kernel_rfl) reads_In4 h2
  have e := s_lawIApart_at x y
  have := (ok_norialaw28_InstrApart _ (by rw [e]; exact ⟨hx, hy⟩)).2
  rw [e] at this
  exact this
end Go.Proofs.YtnbmpdhgejppaaaDoor

