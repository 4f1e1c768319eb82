/- A Sum: its cells, and its table. -/
import Derived.Test.YtmdgjgnmbdmdgaaBa
import Derived.Test.YtmdgjgnmbdmdgaaCr0
set_option linter.all false
set_option maxRecDepth 20000
namespace Go.Proofs.Ytmdgjgnmbdmdgaa
open Go.Nk Crc0

structure Sm where
  d : Int
  st : Int
  t : List (BitVec 32)
  r : BitVec 32
  m : Bool
def oS (s : Sm) : DObj := ⟨.loc, 261, [sumRow s.d s.st s.t s.r s.m]⟩
theorem row_len {d st : Int} {t : List (BitVec 32)} {r : BitVec 32} {m : Bool} (h : t.length = 256) : (sumRow d st t r m).length = 261 := by simp [sumRow, h]
theorem row_259 {d st : Int} {t : List (BitVec 32)} {r : BitVec 32} {m : Bool} (h : t.length = 256) : (sumRow d st t r m).drop 259 = [.int .u32 (r.toNat : Int), .bool m] := by
  unfold sumRow
  rw [List.drop_succ_cons, List.drop_succ_cons, List.drop_succ_cons, List.drop_append_of_le_length (by simp [h]), List.drop_of_length_le (by simp [h]), List.nil_append]
theorem row_260 {d st : Int} {t : List (BitVec 32)} {r : BitVec 32} {m : Bool} (h : t.length = 256) : (sumRow d st t r m).drop 260 = [.bool m] := by
  have := row_259 (d := d) (st := st) (r := r) (m := m) h
  rw [show 260 = 259 + 1 from rfl, ← List.drop_drop, this]; rfl
theorem row_tab {d st : Int} {t : List (BitVec 32)} {r : BitVec 32} {m : Bool} {i : Nat} (h : t.length = 256) (hi : i < 256) : ∃ l, (sumRow d st t r m).drop (3 + i) = .int .u32 ((t.getD i 0#32).toNat : Int) :: l := by
  unfold sumRow
  rw [show 3 + i = i + 1 + 1 + 1 by omega, List.drop_succ_cons, List.drop_succ_cons, List.drop_succ_cons, List.drop_append_of_le_length (by simp [h]; omega)]
  rw [← List.map_drop, List.drop_eq_getElem_cons (by omega)]
  refine ⟨_, by rw [List.map_cons, List.cons_append, List.getD_eq_getElem?_getD, List.getElem?_eq_getElem (by omega)]; rfl⟩
theorem row_set {d st : Int} {t : List (BitVec 32)} {r : BitVec 32} {m : Bool} {i : Nat} (h : t.length = 256) (hi : i < 256) (x : BitVec 32) : (sumRow d st t r m).set (3 + i) (.int .u32 (x.toNat : Int)) = sumRow d st (t.set i x) r m := by
  unfold sumRow
  rw [show 3 + i = i + 1 + 1 + 1 by omega, List.set_cons_succ, List.set_cons_succ, List.set_cons_succ, List.set_append_left _ _ (by simp [h]; omega), List.map_set]
theorem row_setR {d st : Int} {t : List (BitVec 32)} {r : BitVec 32} {m : Bool} (h : t.length = 256) (x : BitVec 32) : (sumRow d st t r m).set 259 (.int .u32 (x.toNat : Int)) = sumRow d st t x m := by
  unfold sumRow
  rw [List.set_cons_succ, List.set_cons_succ, List.set_cons_succ, List.set_append_right _ _ (by simp [h])]
  simp [h]
theorem sumRow_inj {d st d' st' : Int} {t t' : List (BitVec 32)} {r r' : BitVec 32} {m m' : Bool} (h : sumRow d st t r m = sumRow d' st' t' r' m') : d = d' ∧ st = st' ∧ t = t' ∧ r = r' ∧ m = m' := by
  unfold sumRow at h
  simp only [List.cons.injEq, DV.int.injEq, true_and] at h
  obtain ⟨rfl, rfl, h⟩ := h
  obtain ⟨h1, h2⟩ := List.append_inj' h rfl
  simp only [List.cons.injEq, DV.int.injEq, true_and, DV.bool.injEq, and_true] at h2
  refine ⟨rfl, rfl, List.map_inj_right (fun x y h => ?_) |>.1 h1, BitVec.eq_of_toNat_eq (by omega), h2.2⟩
  injection h with _ h
  exact BitVec.eq_of_toNat_eq (by omega)
theorem oS_inj {a b : Sm} (h : oS a = oS b) : a = b := by
  unfold oS at h
  injection h with _ _ h
  obtain ⟨h1, h2, h3, h4, h5⟩ := sumRow_inj (List.cons.inj h).1
  cases a; cases b; simp only at h1 h2 h3 h4 h5; subst h1 h2 h3 h4 h5; rfl

/-- What the table has. -/
def tab : List (BitVec 32) := (List.range 256).map fun i => it 8 (BitVec.ofNat 32 i)
theorem tab_len : tab.length = 256 := by simp [tab]
theorem tab_get {i : Nat} (h : i < 256) : tab.getD i 0#32 = it 8 (BitVec.ofNat 32 i) := by
  simp [tab, h]
theorem tab_of {t : List (BitVec 32)} (h : t.length = 256) (k : ∀ i, i < 256 → t.getD i 0#32 = it 8 (BitVec.ofNat 32 i)) : t = tab := by
  apply List.ext_getElem (by rw [h, tab_len])
  intro i h1 h2
  have := k i (by omega)
  rw [List.getD_eq_getElem?_getD, List.getElem?_eq_getElem h1, Option.getD_some] at this
  rw [this]
  simp [tab]

/-! numbers of 32 bits -/
theorem u32w {n : Int} (h : 0 ≤ n ∧ n < 4294967296) : IntKind.u32.wrap n = n := by rw [IntKind.wrap_u32]; omega
theorem u32n (x : BitVec 32) : IntKind.u32.wrap (x.toNat : Int) = (x.toNat : Int) := u32w ⟨by omega, by have := x.isLt; omega⟩
theorem ofI (x : BitVec 32) : BitVec.ofInt 32 (x.toNat : Int) = x := by
  rw [BitVec.ofInt_natCast, BitVec.ofNat_toNat, BitVec.setWidth_eq]
theorem n_and1 (x : BitVec 32) : bitsOf .and .u32 (x.toNat : Int) 1 = ((x &&& 1#32).toNat : Int) := by
  simp only [bitsOf, IntKind.bits]
  rw [ofI, show (BitVec.ofInt 32 1) = 1#32 by decide]
  exact u32n _
theorem n_xor (x y : BitVec 32) : bitsOf .xor .u32 (x.toNat : Int) (y.toNat : Int) = ((x ^^^ y).toNat : Int) := by
  simp only [bitsOf, IntKind.bits]
  rw [ofI, ofI]
  exact u32n _
theorem n_xorp (x : BitVec 32) : bitsOf .xor .u32 (x.toNat : Int) 3988292384 = ((x ^^^ 0xedb88320#32).toNat : Int) := n_xor x 0xedb88320#32
theorem n_shr1 (x : BitVec 32) : Int.fdiv (x.toNat : Int) (2 ^ min 1 32) = ((x >>> 1).toNat : Int) := by
  rw [BitVec.toNat_ushiftRight, Nat.shiftRight_eq_div_pow, Int.fdiv_eq_ediv_of_nonneg _ (by decide)]
  have : (2 : Int) ^ min 1 32 = 2 := by decide
  rw [this]; omega
theorem n_shr8 (x : BitVec 32) : Int.fdiv (x.toNat : Int) (2 ^ min 8 32) = ((x >>> 8).toNat : Int) := by
  rw [BitVec.toNat_ushiftRight, Nat.shiftRight_eq_div_pow, Int.fdiv_eq_ediv_of_nonneg _ (by decide)]
  have : (2 : Int) ^ min 8 32 = 256 := by decide
  rw [this]; omega
theorem T_odd {x : BitVec 32} (h : x &&& 1#32 = 1#32) : T x = (x >>> 1) ^^^ 0xedb88320#32 := by
  have : x.getLsbD 0 = true := by
    have := congrArg (fun y : BitVec 32 => y.getLsbD 0) h
    simpa [BitVec.getLsbD_and] using this
  unfold T; rw [this]; rfl
theorem T_even {x : BitVec 32} (h : ¬ x &&& 1#32 = 1#32) : T x = x >>> 1 := by
  have : x.getLsbD 0 = false := by
    rw [Bool.eq_false_iff]
    intro h0
    apply h
    apply BitVec.eq_of_getLsbD_eq
    intro i hi
    rw [BitVec.getLsbD_and]
    rcases Nat.eq_zero_or_pos i with rfl | hp
    · rw [h0]; decide
    · have : (1#32).getLsbD i = false := by
        rw [BitVec.getLsbD_one]; simp; omega
      rw [this, Bool.and_false]
  unfold T; rw [this]; simp
theorem it_succ (k : Nat) (x : BitVec 32) : it (k + 1) x = T (it k x) := by
  rw [it_add k 1]; rfl

/-! the table is made -/
def relS (x : Nat × Sm) (a : List DV) (hp : List DObj) : Prop := a = [.ptr x.1 1 0 0] ∧ hp[x.1]? = some (oS x.2)
theorem relS_u : ∀ x y a hp, relS x a hp → relS y a hp → x = y := by
  rintro ⟨n, s⟩ ⟨n', s'⟩ a hp ⟨rfl, h⟩ ⟨e, h'⟩
  simp only [List.cons.injEq, DV.ptr.injEq, and_true] at e
  subst e
  have := oS_inj (Option.some.inj (h.symm.trans h'))
  simp only at this
  rw [this]
noncomputable def s_fill : List DV → List DObj → Res := specG relS (fun x => (x.2.t.length = 256, .tup [])) (fun x hp => hp.set x.1 (oS { x.2 with t := tab }))
set_option maxHeartbeats 1000000 in
theorem ok_fill : OkH Try.prog 18 s_fill := by
  refine OkH.mkGH (ps := []) (hs := []) trivial trivial m_crc_Sum_fill (fun x a hp h => by rw [h.1]; rfl) fun x a hp h hl => ?_
  obtain ⟨n, s⟩ := x
  obtain ⟨rfl, hh⟩ := h
  have hl : s.t.length = 256 := hl
  have hnl : n < hp.length := (List.getElem?_eq_some_iff.1 hh).1
  
  have e0 : hp = hp.set n (oS { s with t := s.t }) := (set_same hh).symm
  (have hcondQ := Bool.and_self; refine Todo.of ?_); (repeat' (first | ((with_reducible refine Todo.to ?_); (repeat (first | (simp only [↓rP, rT, rU, eI, eU, eB, eS, eBs, eL, eA, buildCells, sepsD, sepB, hdl, dvalX, DOp.kind, dval, frameFrom, dBin, dInt, dStr, dBeq, dUn, dLoad, cellsAt, retV, retL, DR.val, fzT, fzVs, fzV, fz1, DV.immB, IntKind.bits, dCallP, viewVs, viewV, view1, capVL, capV, viewL, noMemV, noMem, elemsOf, dAppend, dAppz, dStore, DV.one, alive, freezeAt, fzLL, fzL, bRow, bU, cellsOf, setFrom, DV.isU, lenMax, lenCap, Nat.reduceEqDiff, Nat.reduceAdd, ↓reduceIte, reduceCtorEq, Nat.reduceSub, Int.reduceToNat, Int.reducePow, Nat.reducePow, Int.reduceLE, Int.reduceLT, Nat.reduceLeDiff, Nat.reduceLT, Int.reduceBEq, Int.reduceBNe, Int.reduceEq, Int.reduceNe, Int.reduceAdd, Int.reduceSub, Int.reduceMul, Int.reduceNeg, Int.reduceTDiv, Int.reduceTMod, Int.reduceMod, Int.reduceDiv, Nat.reduceMul, forall_const, implies_true, d_crc_Sum_fill, eIls, eRows, eSs, eY, sls_len, ils_len, ils_rowsT, sls_rowsT, sls_tk0, ils_tk0 , hcondQ]) | (simp (disch := omega) only [i64_id, u64_id, u8_id, getD_map'])))) | ((with_reducible refine And.intro ?_ ?_); · first | trivial | omega | (simp; done) | (simp; omega)) | ((first | ((with_reducible refine dwp_condI (t := ?_) ?_ (fun hcQ => ?_) (fun hcQ => ?_)); rotate_left; · rfl) | ((with_reducible refine dops_guardI (t := ?_) ?_ (fun hcQ => ?_) (fun hcQ => ?_)); rotate_left; · rfl)) <;> (have hn := hcQ; have hcondQ := hcQ) <;> (try simp only [decide_eq_true_eq, decide_eq_false_iff_not, beq_iff_eq, bne_iff_ne, ne_eq, Bool.and_eq_true, Bool.or_eq_true, Bool.not_eq_true, Bool.not_eq_false, beq_eq_false_iff_ne, bne_eq_false_iff_eq, Bool.not_eq_true', Bool.not_eq_false', Int.ofNat_lt, Int.ofNat_le, Bool.or_eq_false_iff, Bool.and_eq_false_imp, Decidable.not_not, gt_iff_lt, ge_iff_le] at hn) <;> (try (exfalso; omega)) <;> (refine Todo.of ?_)) | (((with_reducible refine dwp_condA ?_ ?_ ?_); · rfl) <;> (refine Todo.of ?_)))) <;> (try (first | (with_reducible rfl) | exact Nat.le_refl _ | exact Int.le_refl _ | assumption | omega))
  refine dwp_loop (fun x : Nat × List (BitVec 32) => ⟨[(0, .ptr n 1 0 0), (5, .int .i64 x.1)], hp.set n (oS { s with t := x.2 })⟩) (fun x => x.1 ≤ 256 ∧ x.2.length = 256 ∧ ∀ i, i < x.1 → x.2.getD i 0#32 = it 8 (BitVec.ofNat 32 i)) (fun x => 256 - x.1) (0, s.t) trivial (by simp only [cut_some, cut_none, List.map_cons, List.map_nil, get_cons, Nk.get_nil, Nat.reduceEqDiff, ↓reduceIte, Nat.succ_ne_self, DV.cut, DV.inB, DObj.cut, List.take_nil, List.take_zero, if_true, Nat.zero_ne_one, Nat.one_ne_zero, DV.inBL, Bool.and_true, Bool.true_and, reduceCtorEq, Nat.zero_lt_one, decide_true, decide_false, Nat.reduceLT, List.take_succ_cons]; rw [← e0]; rfl) ⟨Nat.zero_le _, hl, fun i h => by omega⟩ fun x hx => ?_
  obtain ⟨k, t⟩ := x
  obtain ⟨hk, ht, htab⟩ := hx
  simp only at hk ht htab
  by_cases d : k < 256
  rotate_left
  · have : t = tab := tab_of ht fun i hi => htab i (by omega)
    subst this
    (have hcondQ := Bool.and_self; refine Todo.of ?_); (repeat' (first | ((with_reducible refine Todo.to ?_); (repeat (first | (simp only [↓rP, rT, rU, eI, eU, eB, eS, eBs, eL, eA, buildCells, sepsD, sepB, hdl, dvalX, DOp.kind, dval, frameFrom, dBin, dInt, dStr, dBeq, dUn, dLoad, cellsAt, retV, retL, DR.val, fzT, fzVs, fzV, fz1, DV.immB, IntKind.bits, dCallP, viewVs, viewV, view1, capVL, capV, viewL, noMemV, noMem, elemsOf, dAppend, dAppz, dStore, DV.one, alive, freezeAt, fzLL, fzL, bRow, bU, cellsOf, setFrom, DV.isU, lenMax, lenCap, Nat.reduceEqDiff, Nat.reduceAdd, ↓reduceIte, reduceCtorEq, Nat.reduceSub, Int.reduceToNat, Int.reducePow, Nat.reducePow, Int.reduceLE, Int.reduceLT, Nat.reduceLeDiff, Nat.reduceLT, Int.reduceBEq, Int.reduceBNe, Int.reduceEq, Int.reduceNe, Int.reduceAdd, Int.reduceSub, Int.reduceMul, Int.reduceNeg, Int.reduceTDiv, Int.reduceTMod, Int.reduceMod, Int.reduceDiv, Nat.reduceMul, forall_const, implies_true, d_crc_Sum_fill, eIls, eRows, eSs, eY, sls_len, ils_len, ils_rowsT, sls_rowsT, sls_tk0, ils_tk0, d, endH_normal , hcondQ]) | (simp (disch := omega) only [i64_id, u64_id, u8_id, getD_map'])))) | ((with_reducible refine And.intro ?_ ?_); · first | trivial | omega | (simp; done) | (simp; omega)) | ((first | ((with_reducible refine dwp_condI (t := ?_) ?_ (fun hcQ => ?_) (fun hcQ => ?_)); rotate_left; · rfl) | ((with_reducible refine dops_guardI (t := ?_) ?_ (fun hcQ => ?_) (fun hcQ => ?_)); rotate_left; · rfl)) <;> (have hn := hcQ; have hcondQ := hcQ) <;> (try simp only [decide_eq_true_eq, decide_eq_false_iff_not, beq_iff_eq, bne_iff_ne, ne_eq, Bool.and_eq_true, Bool.or_eq_true, Bool.not_eq_true, Bool.not_eq_false, beq_eq_false_iff_ne, bne_eq_false_iff_eq, Bool.not_eq_true', Bool.not_eq_false', Int.ofNat_lt, Int.ofNat_le, Bool.or_eq_false_iff, Bool.and_eq_false_imp, Decidable.not_not, gt_iff_lt, ge_iff_le] at hn) <;> (try (exfalso; omega)) <;> (refine Todo.of ?_)) | (((with_reducible refine dwp_condA ?_ ?_ ?_); · rfl) <;> (refine Todo.of ?_)))) <;> (try (first | (with_reducible rfl) | exact Nat.le_refl _ | exact Int.le_refl _ | assumption | omega))
  have w1 : IntKind.i64.wrap ((k : Int) + 1) = ((k + 1 : Nat) : Int) := by rw [wrap_i64_id (by omega)]; omega
  have w2 : IntKind.u32.wrap (k : Int) = ((BitVec.ofNat 32 k).toNat : Int) := by rw [u32w (by omega), BitVec.toNat_ofNat]; omega
  (have hcondQ := Bool.and_self; refine Todo.of ?_); (repeat' (first | ((with_reducible refine Todo.to ?_); (repeat (first | (simp only [↓rP, rT, rU, eI, eU, eB, eS, eBs, eL, eA, buildCells, sepsD, sepB, hdl, dvalX, DOp.kind, dval, frameFrom, dBin, dInt, dStr, dBeq, dUn, dLoad, cellsAt, retV, retL, DR.val, fzT, fzVs, fzV, fz1, DV.immB, IntKind.bits, dCallP, viewVs, viewV, view1, capVL, capV, viewL, noMemV, noMem, elemsOf, dAppend, dAppz, dStore, DV.one, alive, freezeAt, fzLL, fzL, bRow, bU, cellsOf, setFrom, DV.isU, lenMax, lenCap, Nat.reduceEqDiff, Nat.reduceAdd, ↓reduceIte, reduceCtorEq, Nat.reduceSub, Int.reduceToNat, Int.reducePow, Nat.reducePow, Int.reduceLE, Int.reduceLT, Nat.reduceLeDiff, Nat.reduceLT, Int.reduceBEq, Int.reduceBNe, Int.reduceEq, Int.reduceNe, Int.reduceAdd, Int.reduceSub, Int.reduceMul, Int.reduceNeg, Int.reduceTDiv, Int.reduceTMod, Int.reduceMod, Int.reduceDiv, Nat.reduceMul, forall_const, implies_true, d_crc_Sum_fill, eIls, eRows, eSs, eY, sls_len, ils_len, ils_rowsT, sls_rowsT, sls_tk0, ils_tk0, d, w2 , hcondQ]) | (simp (disch := omega) only [i64_id, u64_id, u8_id, getD_map'])))) | ((with_reducible refine And.intro ?_ ?_); · first | trivial | omega | (simp; done) | (simp; omega)) | ((first | ((with_reducible refine dwp_condI (t := ?_) ?_ (fun hcQ => ?_) (fun hcQ => ?_)); rotate_left; · rfl) | ((with_reducible refine dops_guardI (t := ?_) ?_ (fun hcQ => ?_) (fun hcQ => ?_)); rotate_left; · rfl)) <;> (have hn := hcQ; have hcondQ := hcQ) <;> (try simp only [decide_eq_true_eq, decide_eq_false_iff_not, beq_iff_eq, bne_iff_ne, ne_eq, Bool.and_eq_true, Bool.or_eq_true, Bool.not_eq_true, Bool.not_eq_false, beq_eq_false_iff_ne, bne_eq_false_iff_eq, Bool.not_eq_true', Bool.not_eq_false', Int.ofNat_lt, Int.ofNat_le, Bool.or_eq_false_iff, Bool.and_eq_false_imp, Decidable.not_not, gt_iff_lt, ge_iff_le] at hn) <;> (try (exfalso; omega)) <;> (refine Todo.of ?_)) | (((with_reducible refine dwp_condA ?_ ?_ ?_); · rfl) <;> (refine Todo.of ?_)))) <;> (try (first | (with_reducible rfl) | exact Nat.le_refl _ | exact Int.le_refl _ | assumption | omega))
  refine dwp_loop (fun y : Nat × BitVec 32 => ⟨[(0, .ptr n 1 0 0), (2, .int .i64 k), (3, .int .u32 (y.2.toNat : Int)), (5, .int .i64 k), (10, .int .i64 y.1)], hp.set n (oS { s with t := t })⟩) (fun y => y.1 ≤ 8 ∧ y.2 = it y.1 (BitVec.ofNat 32 k)) (fun y => 8 - y.1) (0, BitVec.ofNat 32 k) trivial (by simp only [cut_some, cut_none, List.map_cons, List.map_nil, get_cons, Nk.get_nil, Nat.reduceEqDiff, ↓reduceIte, Nat.succ_ne_self, DV.cut, DV.inB, DObj.cut, List.take_nil, List.take_zero, if_true, Nat.zero_ne_one, Nat.one_ne_zero, DV.inBL, Bool.and_true, Bool.true_and, reduceCtorEq, Nat.zero_lt_one, decide_true, decide_false, Nat.reduceLT, List.take_succ_cons]; rfl) ⟨Nat.zero_le _, rfl⟩ fun y hy => ?_
  obtain ⟨j, v⟩ := y
  obtain ⟨hj, hv⟩ := hy
  simp only at hj hv
  by_cases dj : j < 8
  · have w3 : IntKind.i64.wrap ((j : Int) + 1) = ((j + 1 : Nat) : Int) := by rw [wrap_i64_id (by omega)]; omega
    by_cases c : v &&& 1#32 = 1#32
    · have c1 : ((v &&& 1#32).toNat : Int) = 1 := by rw [c]; rfl
      (have hcondQ := Bool.and_self; refine Todo.of ?_); (repeat' (first | ((with_reducible refine Todo.to ?_); (repeat (first | (simp only [↓rP, rT, rU, eI, eU, eB, eS, eBs, eL, eA, buildCells, sepsD, sepB, hdl, dvalX, DOp.kind, dval, frameFrom, dBin, dInt, dStr, dBeq, dUn, dLoad, cellsAt, retV, retL, DR.val, fzT, fzVs, fzV, fz1, DV.immB, IntKind.bits, dCallP, viewVs, viewV, view1, capVL, capV, viewL, noMemV, noMem, elemsOf, dAppend, dAppz, dStore, DV.one, alive, freezeAt, fzLL, fzL, bRow, bU, cellsOf, setFrom, DV.isU, lenMax, lenCap, Nat.reduceEqDiff, Nat.reduceAdd, ↓reduceIte, reduceCtorEq, Nat.reduceSub, Int.reduceToNat, Int.reducePow, Nat.reducePow, Int.reduceLE, Int.reduceLT, Nat.reduceLeDiff, Nat.reduceLT, Int.reduceBEq, Int.reduceBNe, Int.reduceEq, Int.reduceNe, Int.reduceAdd, Int.reduceSub, Int.reduceMul, Int.reduceNeg, Int.reduceTDiv, Int.reduceTMod, Int.reduceMod, Int.reduceDiv, Nat.reduceMul, forall_const, implies_true, d_crc_Sum_fill, eIls, eRows, eSs, eY, sls_len, ils_len, ils_rowsT, sls_rowsT, sls_tk0, ils_tk0, d, dj, w3, n_and1, n_shr1, n_xorp, c1 , hcondQ]) | (simp (disch := omega) only [i64_id, u64_id, u8_id, getD_map'])))) | ((with_reducible refine And.intro ?_ ?_); · first | trivial | omega | (simp; done) | (simp; omega)) | ((first | ((with_reducible refine dwp_condI (t := ?_) ?_ (fun hcQ => ?_) (fun hcQ => ?_)); rotate_left; · rfl) | ((with_reducible refine dops_guardI (t := ?_) ?_ (fun hcQ => ?_) (fun hcQ => ?_)); rotate_left; · rfl)) <;> (have hn := hcQ; have hcondQ := hcQ) <;> (try simp only [decide_eq_true_eq, decide_eq_false_iff_not, beq_iff_eq, bne_iff_ne, ne_eq, Bool.and_eq_true, Bool.or_eq_true, Bool.not_eq_true, Bool.not_eq_false, beq_eq_false_iff_ne, bne_eq_false_iff_eq, Bool.not_eq_true', Bool.not_eq_false', Int.ofNat_lt, Int.ofNat_le, Bool.or_eq_false_iff, Bool.and_eq_false_imp, Decidable.not_not, gt_iff_lt, ge_iff_le] at hn) <;> (try (exfalso; omega)) <;> (refine Todo.of ?_)) | (((with_reducible refine dwp_condA ?_ ?_ ?_); · rfl) <;> (refine Todo.of ?_)))) <;> (try (first | (with_reducible rfl) | exact Nat.le_refl _ | exact Int.le_refl _ | assumption | omega))
      refine ⟨(j + 1, it (j + 1) (BitVec.ofNat 32 k)), ?_, ⟨by omega, rfl⟩, by omega⟩
      simp only [cut_some, cut_none, List.map_cons, List.map_nil, get_cons, Nk.get_nil, Nat.reduceEqDiff, ↓reduceIte, Nat.succ_ne_self, DV.cut, DV.inB, DObj.cut, List.take_nil, List.take_zero, if_true, Nat.zero_ne_one, Nat.one_ne_zero, DV.inBL, Bool.and_true, Bool.true_and, reduceCtorEq, Nat.zero_lt_one, decide_true, decide_false, Nat.reduceLT, List.take_succ_cons, it_succ, ← hv, T_odd c]
    · have c1 : ((((v &&& 1#32).toNat : Int) == 1)) = false := by
        simp only [beq_eq_false_iff_ne]
        intro h
        apply c
        apply BitVec.eq_of_toNat_eq
        have : (1#32).toNat = 1 := rfl
        omega
      (have hcondQ := Bool.and_self; refine Todo.of ?_); (repeat' (first | ((with_reducible refine Todo.to ?_); (repeat (first | (simp only [↓rP, rT, rU, eI, eU, eB, eS, eBs, eL, eA, buildCells, sepsD, sepB, hdl, dvalX, DOp.kind, dval, frameFrom, dBin, dInt, dStr, dBeq, dUn, dLoad, cellsAt, retV, retL, DR.val, fzT, fzVs, fzV, fz1, DV.immB, IntKind.bits, dCallP, viewVs, viewV, view1, capVL, capV, viewL, noMemV, noMem, elemsOf, dAppend, dAppz, dStore, DV.one, alive, freezeAt, fzLL, fzL, bRow, bU, cellsOf, setFrom, DV.isU, lenMax, lenCap, Nat.reduceEqDiff, Nat.reduceAdd, ↓reduceIte, reduceCtorEq, Nat.reduceSub, Int.reduceToNat, Int.reducePow, Nat.reducePow, Int.reduceLE, Int.reduceLT, Nat.reduceLeDiff, Nat.reduceLT, Int.reduceBEq, Int.reduceBNe, Int.reduceEq, Int.reduceNe, Int.reduceAdd, Int.reduceSub, Int.reduceMul, Int.reduceNeg, Int.reduceTDiv, Int.reduceTMod, Int.reduceMod, Int.reduceDiv, Nat.reduceMul, forall_const, implies_true, d_crc_Sum_fill, eIls, eRows, eSs, eY, sls_len, ils_len, ils_rowsT, sls_rowsT, sls_tk0, ils_tk0, d, dj, w3, n_and1, n_shr1, n_xorp, c1 , hcondQ]) | (simp (disch := omega) only [i64_id, u64_id, u8_id, getD_map'])))) | ((with_reducible refine And.intro ?_ ?_); · first | trivial | omega | (simp; done) | (simp; omega)) | ((first | ((with_reducible refine dwp_condI (t := ?_) ?_ (fun hcQ => ?_) (fun hcQ => ?_)); rotate_left; · rfl) | ((with_reducible refine dops_guardI (t := ?_) ?_ (fun hcQ => ?_) (fun hcQ => ?_)); rotate_left; · rfl)) <;> (have hn := hcQ; have hcondQ := hcQ) <;> (try simp only [decide_eq_true_eq, decide_eq_false_iff_not, beq_iff_eq, bne_iff_ne, ne_eq, Bool.and_eq_true, Bool.or_eq_true, Bool.not_eq_true, Bool.not_eq_false, beq_eq_false_iff_ne, bne_eq_false_iff_eq, Bool.not_eq_true', Bool.not_eq_false', Int.ofNat_lt, Int.ofNat_le, Bool.or_eq_false_iff, Bool.and_eq_false_imp, Decidable.not_not, gt_iff_lt, ge_iff_le] at hn) <;> (try (exfalso; omega)) <;> (refine Todo.of ?_)) | (((with_reducible refine dwp_condA ?_ ?_ ?_); · rfl) <;> (refine Todo.of ?_)))) <;> (try (first | (with_reducible rfl) | exact Nat.le_refl _ | exact Int.le_refl _ | assumption | omega))
      refine ⟨(j + 1, it (j + 1) (BitVec.ofNat 32 k)), ?_, ⟨by omega, rfl⟩, by omega⟩
      simp only [cut_some, cut_none, List.map_cons, List.map_nil, get_cons, Nk.get_nil, Nat.reduceEqDiff, ↓reduceIte, Nat.succ_ne_self, DV.cut, DV.inB, DObj.cut, List.take_nil, List.take_zero, if_true, Nat.zero_ne_one, Nat.one_ne_zero, DV.inBL, Bool.and_true, Bool.true_and, reduceCtorEq, Nat.zero_lt_one, decide_true, decide_false, Nat.reduceLT, List.take_succ_cons, it_succ, ← hv, T_even c]
  · have hj8 : j = 8 := by omega
    subst hj8
    have hg : (hp.set n (oS { s with t := t }))[n]? = some ⟨.loc, 261, [sumRow s.d s.st t s.r s.m]⟩ := List.getElem?_set_self hnl
    have hr := row_len (d := s.d) (st := s.st) (r := s.r) (m := s.m) ht
    have hs := row_set (d := s.d) (st := s.st) (r := s.r) (m := s.m) ht d v
    have hw : ∀ o : DObj, (hp.set n (oS { s with t := t })).set n o = hp.set n o := fun o => List.set_set ..
    (have hcondQ := Bool.and_self; refine Todo.of ?_); (repeat' (first | ((with_reducible refine Todo.to ?_); (repeat (first | (simp only [↓rP, rT, rU, eI, eU, eB, eS, eBs, eL, eA, buildCells, sepsD, sepB, hdl, dvalX, DOp.kind, dval, frameFrom, dBin, dInt, dStr, dBeq, dUn, dLoad, cellsAt, retV, retL, DR.val, fzT, fzVs, fzV, fz1, DV.immB, IntKind.bits, dCallP, viewVs, viewV, view1, capVL, capV, viewL, noMemV, noMem, elemsOf, dAppend, dAppz, dStore, DV.one, alive, freezeAt, fzLL, fzL, bRow, bU, cellsOf, setFrom, DV.isU, lenMax, lenCap, Nat.reduceEqDiff, Nat.reduceAdd, ↓reduceIte, reduceCtorEq, Nat.reduceSub, Int.reduceToNat, Int.reducePow, Nat.reducePow, Int.reduceLE, Int.reduceLT, Nat.reduceLeDiff, Nat.reduceLT, Int.reduceBEq, Int.reduceBNe, Int.reduceEq, Int.reduceNe, Int.reduceAdd, Int.reduceSub, Int.reduceMul, Int.reduceNeg, Int.reduceTDiv, Int.reduceTMod, Int.reduceMod, Int.reduceDiv, Nat.reduceMul, forall_const, implies_true, d_crc_Sum_fill, eIls, eRows, eSs, eY, sls_len, ils_len, ils_rowsT, sls_rowsT, sls_tk0, ils_tk0, d, dj, w1, hg, hr, hs, hw , hcondQ]) | (simp (disch := omega) only [i64_id, u64_id, u8_id, getD_map'])))) | ((with_reducible refine And.intro ?_ ?_); · first | trivial | omega | (simp; done) | (simp; omega)) | ((first | ((with_reducible refine dwp_condI (t := ?_) ?_ (fun hcQ => ?_) (fun hcQ => ?_)); rotate_left; · rfl) | ((with_reducible refine dops_guardI (t := ?_) ?_ (fun hcQ => ?_) (fun hcQ => ?_)); rotate_left; · rfl)) <;> (have hn := hcQ; have hcondQ := hcQ) <;> (try simp only [decide_eq_true_eq, decide_eq_false_iff_not, beq_iff_eq, bne_iff_ne, ne_eq, Bool.and_eq_true, Bool.or_eq_true, Bool.not_eq_true, Bool.not_eq_false, beq_eq_false_iff_ne, bne_eq_false_iff_eq, Bool.not_eq_true', Bool.not_eq_false', Int.ofNat_lt, Int.ofNat_le, Bool.or_eq_false_iff, Bool.and_eq_false_imp, Decidable.not_not, gt_iff_lt, ge_iff_le] at hn) <;> (try (exfalso; omega)) <;> (refine Todo.of ?_)) | (((with_reducible refine dwp_condA ?_ ?_ ?_); · rfl) <;> (refine Todo.of ?_)))) <;> (try (first | (with_reducible rfl) | exact Nat.le_refl _ | exact Int.le_refl _ | assumption | omega))
    refine ⟨(k + 1, t.set k v), ?_, ⟨by omega, by simpa using ht, fun i hi => ?_⟩, by omega⟩
    · simp only [cut_some, cut_none, List.map_cons, List.map_nil, get_cons, Nk.get_nil, Nat.reduceEqDiff, ↓reduceIte, Nat.succ_ne_self, DV.cut, DV.inB, DObj.cut, List.take_nil, List.take_zero, if_true, Nat.zero_ne_one, Nat.one_ne_zero, DV.inBL, Bool.and_true, Bool.true_and, reduceCtorEq, Nat.zero_lt_one, decide_true, decide_false, Nat.reduceLT, List.take_succ_cons]; rfl
    · rw [List.getD_eq_getElem?_getD, List.getElem?_set]
      by_cases e : k = i
      · subst e; rw [if_pos rfl, if_pos (by omega)]; exact hv
      · rw [if_neg e, ← List.getD_eq_getElem?_getD]; exact htab i (by omega)
end Go.Proofs.Ytmdgjgnmbdmdgaa
