/- Readers: what each function of a reader tells, and makes of it. -/
import Derived.Test.YtpohoagllmocnaaOctBack2
set_option linter.unusedSimpArgs false
set_option linter.unusedVariables false
set_option maxRecDepth 20000
namespace Go.Proofs.Ytpohoagllmocnaa
open Go.Nk

/-! What reading is. -/
def ok62 (l : List UInt8) : Prop := l.length ≤ 4294967296

/-- So many bytes from a place on; the place behind them. A place that is none: it failed. -/
def nxt (l : List UInt8) : Option Nat → Int → Option (List UInt8) × Option Nat
  | none, _ => (none, none)
  | some a, n => if 0 ≤ n ∧ n ≤ (l.length : Int) - a then (some ((l.take (a + n.toNat)).drop a), some (a + n.toNat)) else (none, none)

def szN (size : Int) : Int := if size < 1 ∨ 4 < size then -1 else size

def rNum (l : List UInt8) (s : Option Nat) (size : Int) : Int × Option Nat :=
  (IntKind.i64.wrap (getF ((nxt l s (szN size)).1.getD [])), (nxt l s (szN size)).2)

def rRaw (l : List UInt8) (s : Option Nat) (size : Int) : Option (List UInt8) × Option Nat := nxt l (rNum l s size).2 (rNum l s size).1

def rInt (l : List UInt8) (s : Option Nat) : Int × Option Nat :=
  match rRaw l s 1 with
  | (some b, s') => if bad b then (0, none) else (sgn b, s')
  | _ => (0, none)

/-- A place within the bytes. -/
def inR (l : List UInt8) : Option Nat → Prop
  | none => True
  | some a => a ≤ l.length

theorem nxt_in {l : List UInt8} {s : Option Nat} (n : Int) (h : inR l s) : inR l (nxt l s n).2 := by
  cases s with
  | none => exact trivial
  | some a =>
    simp only [nxt]
    split
    · simp only [inR] at h ⊢; omega
    · exact trivial
theorem rNum_in {l : List UInt8} {s : Option Nat} (n : Int) (h : inR l s) : inR l (rNum l s n).2 := nxt_in _ h
theorem rRaw_in {l : List UInt8} {s : Option Nat} (n : Int) (h : inR l s) : inR l (rRaw l s n).2 := nxt_in _ (rNum_in _ h)

/-! The reader of the program. -/
def oP : Option (List UInt8 × Nat) → DObj
  | some (l, a) => ⟨.loc, 3, [[.sl (bsl l), .bool true, .int .i64 a]]⟩
  | none => ⟨.loc, 3, [[.nil, .bool false, .int .i64 0]]⟩

theorem oP_inj : InjL oP := by
  intro x y h
  rcases x with _ | ⟨l, a⟩ <;> rcases y with _ | ⟨l', a'⟩ <;> simp [oP] at h
  · rfl
  · obtain ⟨h1, h2⟩ := h
    have h3 : a = a' := by omega
    rw [bsl_inj h1, h3]

def okP : Option (List UInt8 × Nat) → Prop
  | some (l, a) => a ≤ l.length ∧ ok62 l
  | none => True

def toP (l : List UInt8) (s : Option Nat) : Option (List UInt8 × Nat) := s.map fun a => (l, a)
theorem okP_to {l : List UInt8} {s : Option Nat} (h : inR l s) (hl : ok62 l) : okP (toP l s) := by
  cases s with
  | none => exact trivial
  | some a => exact ⟨h, hl⟩

def bsO : Option (List UInt8) → DV
  | some b => .sl (bsl b)
  | none => .nil

/-! fail: of a state at the head of a struct -/
structure HeadO where
  z : Nat
  c0 : DV
  c1 : DV
  r : List DV
def oHead (x : HeadO) : DObj := ⟨.loc, x.z, [x.c0 :: x.c1 :: x.r]⟩
theorem oHead_inj : InjL oHead := by
  rintro ⟨a, b, c, d⟩ ⟨a', b', c', d'⟩ h
  simp [oHead] at h
  obtain ⟨rfl, rfl, rfl, rfl⟩ := h
  rfl
noncomputable def s_fail : List DV → List DObj → Res := specM oHead (fun _ : Unit => []) (fun x _ => (True, .tup [], ⟨x.z, .nil, .bool false, x.r⟩)) (fun _ => (False, .undef))
theorem ok_reader_fail : OkH Try.prog 40 s_fail := by
  refine OkH.mkM (ps := []) (hs := []) trivial trivial m_reader_state_fail (fun _ => rfl) (fun n hp x a hh hl h => ?_) (fun hp a h => h.elim)
  have hh' : hp[n]? = some ⟨.loc, x.z, [x.c0 :: x.c1 :: x.r]⟩ := hh
  simp only [d_reader_state_fail, false_and, and_false, if_false, ite_true, ite_false, eI, eU, eB, eS, eBs, eL, eA, List.cons_append, List.take_succ_cons, List.drop_succ_cons, buildCells, List.take_zero, List.take_nil, ↓dwp_skip, ↓dwp_ops, ↓dwp_opsP, ↓dwp_cut, cut_some, cut_none, DV.cut, DV.inB, DV.inBL, DObj.cut, ↓dwp_opsS, sepsD, sepB, hdl, Only_set, Only_same, Only_zero, Only_succ, ↓dwp_seq, ↓dwp_block, ↓dwp_exit, ↓dwp_ret, ↓dwp_cond, dvalX, DOp.kind, dops_nil, dops_none, dops_some, ↓then_normal, ↓then_exit, ↓then_ret, ↓inBlock_normal, ↓inBlock_exit, ↓inBlock_ret, put_some, put_none, ev_t, ev_c, endP_normal, endP_ret, endH_normal, endH_ret, dval, frameFrom, get_cons, Nk.get_nil, Nat.reduceEqDiff, Nat.reduceAdd, ↓reduceIte, if_true, Nat.succ_ne_self, true_and, and_true, Bool.not_true, beq_ft, beq_tf, bne_ft, bne_tf, bne_self_eq_false, Bool.not_false, dBin, dInt, dStr, dBeq, dUn, dLoad, cellsAt, retV, retL, DR.val, fzT, fzVs, fzV, fz1, DV.immB, List.map_cons, List.map_nil, Option.map_some, Option.map_none, Bool.false_eq_true, false_implies, forall_const, Bool.true_eq_false, reduceCtorEq, implies_true, Int.toNat_natCast, Nat.zero_ne_one, Nat.one_ne_zero, Nat.reduceSub, List.length_cons, List.length_nil, List.getD_cons_zero, List.getD_cons_succ, Int.reduceToNat, IntKind.bits, Int.reducePow, Nat.reducePow, Nat.lt_add_one, Nat.zero_lt_one, Int.reduceLE, Int.reduceLT, Nat.reduceLeDiff, Nat.reduceLT, Nat.zero_add, IntKind.wrap_u64, IntKind.wrap_i64, IntKind.wrap_u8, decide_eq_true_eq, decide_eq_false_iff_not, Int.ofNat_lt, bsl_length, dCallP, viewVs, viewV, view1, viewL, noMemV, noMem, of_p, of_h, pOf_cons, hOf_cons, spec0_at, specB1_at, specB2_at, specB1_nil, specB2_nil1, specB2_nil2, specB2_nil3, spec1_at, List.all_cons, List.all_nil, Bool.and_true, Bool.and_false, Bool.true_and, Bool.false_and, not_true_eq_false, not_false_eq_true, List.getElem?_cons_zero, List.getElem?_cons_succ, List.set_cons_zero, List.set_set, List.set_cons_succ, elemsOf, dAppend, dStore, DV.one, alive, freezeAt, List.drop_zero, List.take_length, List.not_mem_nil, List.forall_mem_cons, List.nil_append, fzLL, fzL, bRow, bU, cellsOf, true_or, or_true, or_false, false_or, or_self, setFrom, DV.isU, beq_self_eq_true, List.length_set, List.length_append, List.length_replicate, decide_true, decide_false, gt_iff_lt, ge_iff_le, slice_lo, slice_hi, slice_both, List.getElem?_nil, Int.reduceBEq, Int.reduceBNe, Int.reduceEq, Int.reduceNe, Int.reduceAdd, Int.reduceSub, Int.reduceMul, Int.reduceNeg, Int.reduceTDiv, Int.reduceTMod, Int.reduceMod, Int.reduceDiv, ne_eq, DV.tup.injEq, DV.int.injEq, DV.bool.injEq, DV.agg.injEq, DV.str.injEq, List.cons.injEq, hh', hl, oHead, List.getElem?_set_self hl, Nat.le_add_left, Nat.succ_le_succ_iff, Nat.zero_le]
theorem s_fail_at {hp : List DObj} {n : Nat} {z : Nat} {c0 c1 : DV} {r : List DV} (hh : hp[n]? = some ⟨.loc, z, [c0 :: c1 :: r]⟩) : s_fail [.ptr n 1 0 0] hp = ⟨True, .tup [], hp.set n ⟨.loc, z, [.nil :: .bool false :: r]⟩⟩ :=
  specM_at (r := ⟨z, c0, c1, r⟩) oHead_inj (injL_unit _) _ _ hh ()

/-! Ok, At, More -/
noncomputable def s_Ok : List DV → List DObj → Res := specM oP (fun _ : Unit => []) (fun r _ => (True, .bool r.isSome, r)) (fun _ => (True, .bool false))
theorem s_Ok_at {hp : List DObj} {n : Nat} {r : Option (List UInt8 × Nat)} (hh : hp[n]? = some (oP r)) : s_Ok [.ptr n 1 0 0] hp = ⟨True, .bool r.isSome, hp⟩ := by
  refine (specM_at oP_inj (injL_unit _) _ _ hh ()).trans ?_
  simp only [set_same hh]
theorem s_Ok_nil (hp : List DObj) : s_Ok [.nilp] hp = ⟨True, .bool false, hp⟩ := specM_nil (injL_unit _) _ _ hp ()
theorem ok_reader_Ok : OkH Try.prog 18 s_Ok := by
  refine OkH.mkM (ps := []) (hs := []) trivial trivial m_reader_Reader_Ok (fun _ => rfl) (fun n hp x a hh hl h => ?_) (fun hp a h => ?_)
  · simp only [set_same hh]
    rcases x with _ | ⟨l, b⟩
    · have hh' : hp[n]? = some ⟨.loc, 3, [[.nil, .bool false, .int .i64 0]]⟩ := hh
      simp only [d_reader_Reader_Ok, false_and, and_false, if_false, ite_true, ite_false, eI, eU, eB, eS, eBs, eL, eA, List.cons_append, List.take_succ_cons, List.drop_succ_cons, buildCells, List.take_zero, List.take_nil, ↓dwp_skip, ↓dwp_ops, ↓dwp_opsP, ↓dwp_cut, cut_some, cut_none, DV.cut, DV.inB, DV.inBL, DObj.cut, ↓dwp_opsS, sepsD, sepB, hdl, Only_set, Only_same, Only_zero, Only_succ, ↓dwp_seq, ↓dwp_block, ↓dwp_exit, ↓dwp_ret, ↓dwp_cond, dvalX, DOp.kind, dops_nil, dops_none, dops_some, ↓then_normal, ↓then_exit, ↓then_ret, ↓inBlock_normal, ↓inBlock_exit, ↓inBlock_ret, put_some, put_none, ev_t, ev_c, endP_normal, endP_ret, endH_normal, endH_ret, dval, frameFrom, get_cons, Nk.get_nil, Nat.reduceEqDiff, Nat.reduceAdd, ↓reduceIte, if_true, Nat.succ_ne_self, true_and, and_true, Bool.not_true, beq_ft, beq_tf, bne_ft, bne_tf, bne_self_eq_false, Bool.not_false, dBin, dInt, dStr, dBeq, dUn, dLoad, cellsAt, retV, retL, DR.val, fzT, fzVs, fzV, fz1, DV.immB, List.map_cons, List.map_nil, Option.map_some, Option.map_none, Bool.false_eq_true, false_implies, forall_const, Bool.true_eq_false, reduceCtorEq, implies_true, Int.toNat_natCast, Nat.zero_ne_one, Nat.one_ne_zero, Nat.reduceSub, List.length_cons, List.length_nil, List.getD_cons_zero, List.getD_cons_succ, Int.reduceToNat, IntKind.bits, Int.reducePow, Nat.reducePow, Nat.lt_add_one, Nat.zero_lt_one, Int.reduceLE, Int.reduceLT, Nat.reduceLeDiff, Nat.reduceLT, Nat.zero_add, IntKind.wrap_u64, IntKind.wrap_i64, IntKind.wrap_u8, decide_eq_true_eq, decide_eq_false_iff_not, Int.ofNat_lt, bsl_length, dCallP, viewVs, viewV, view1, viewL, noMemV, noMem, of_p, of_h, pOf_cons, hOf_cons, spec0_at, specB1_at, specB2_at, specB1_nil, specB2_nil1, specB2_nil2, specB2_nil3, spec1_at, List.all_cons, List.all_nil, Bool.and_true, Bool.and_false, Bool.true_and, Bool.false_and, not_true_eq_false, not_false_eq_true, List.getElem?_cons_zero, List.getElem?_cons_succ, List.set_cons_zero, List.set_set, List.set_cons_succ, elemsOf, dAppend, dStore, DV.one, alive, freezeAt, List.drop_zero, List.take_length, List.not_mem_nil, List.forall_mem_cons, List.nil_append, fzLL, fzL, bRow, bU, cellsOf, true_or, or_true, or_false, false_or, or_self, setFrom, DV.isU, beq_self_eq_true, List.length_set, List.length_append, List.length_replicate, decide_true, decide_false, gt_iff_lt, ge_iff_le, slice_lo, slice_hi, slice_both, List.getElem?_nil, Int.reduceBEq, Int.reduceBNe, Int.reduceEq, Int.reduceNe, Int.reduceAdd, Int.reduceSub, Int.reduceMul, Int.reduceNeg, Int.reduceTDiv, Int.reduceTMod, Int.reduceMod, Int.reduceDiv, ne_eq, DV.tup.injEq, DV.int.injEq, DV.bool.injEq, DV.agg.injEq, DV.str.injEq, List.cons.injEq, dPeq, hh', hl, Option.isSome_none]
    · have hh' : hp[n]? = some ⟨.loc, 3, [[.sl (bsl l), .bool true, .int .i64 b]]⟩ := hh
      simp only [d_reader_Reader_Ok, false_and, and_false, if_false, ite_true, ite_false, eI, eU, eB, eS, eBs, eL, eA, List.cons_append, List.take_succ_cons, List.drop_succ_cons, buildCells, List.take_zero, List.take_nil, ↓dwp_skip, ↓dwp_ops, ↓dwp_opsP, ↓dwp_cut, cut_some, cut_none, DV.cut, DV.inB, DV.inBL, DObj.cut, ↓dwp_opsS, sepsD, sepB, hdl, Only_set, Only_same, Only_zero, Only_succ, ↓dwp_seq, ↓dwp_block, ↓dwp_exit, ↓dwp_ret, ↓dwp_cond, dvalX, DOp.kind, dops_nil, dops_none, dops_some, ↓then_normal, ↓then_exit, ↓then_ret, ↓inBlock_normal, ↓inBlock_exit, ↓inBlock_ret, put_some, put_none, ev_t, ev_c, endP_normal, endP_ret, endH_normal, endH_ret, dval, frameFrom, get_cons, Nk.get_nil, Nat.reduceEqDiff, Nat.reduceAdd, ↓reduceIte, if_true, Nat.succ_ne_self, true_and, and_true, Bool.not_true, beq_ft, beq_tf, bne_ft, bne_tf, bne_self_eq_false, Bool.not_false, dBin, dInt, dStr, dBeq, dUn, dLoad, cellsAt, retV, retL, DR.val, fzT, fzVs, fzV, fz1, DV.immB, List.map_cons, List.map_nil, Option.map_some, Option.map_none, Bool.false_eq_true, false_implies, forall_const, Bool.true_eq_false, reduceCtorEq, implies_true, Int.toNat_natCast, Nat.zero_ne_one, Nat.one_ne_zero, Nat.reduceSub, List.length_cons, List.length_nil, List.getD_cons_zero, List.getD_cons_succ, Int.reduceToNat, IntKind.bits, Int.reducePow, Nat.reducePow, Nat.lt_add_one, Nat.zero_lt_one, Int.reduceLE, Int.reduceLT, Nat.reduceLeDiff, Nat.reduceLT, Nat.zero_add, IntKind.wrap_u64, IntKind.wrap_i64, IntKind.wrap_u8, decide_eq_true_eq, decide_eq_false_iff_not, Int.ofNat_lt, bsl_length, dCallP, viewVs, viewV, view1, viewL, noMemV, noMem, of_p, of_h, pOf_cons, hOf_cons, spec0_at, specB1_at, specB2_at, specB1_nil, specB2_nil1, specB2_nil2, specB2_nil3, spec1_at, List.all_cons, List.all_nil, Bool.and_true, Bool.and_false, Bool.true_and, Bool.false_and, not_true_eq_false, not_false_eq_true, List.getElem?_cons_zero, List.getElem?_cons_succ, List.set_cons_zero, List.set_set, List.set_cons_succ, elemsOf, dAppend, dStore, DV.one, alive, freezeAt, List.drop_zero, List.take_length, List.not_mem_nil, List.forall_mem_cons, List.nil_append, fzLL, fzL, bRow, bU, cellsOf, true_or, or_true, or_false, false_or, or_self, setFrom, DV.isU, beq_self_eq_true, List.length_set, List.length_append, List.length_replicate, decide_true, decide_false, gt_iff_lt, ge_iff_le, slice_lo, slice_hi, slice_both, List.getElem?_nil, Int.reduceBEq, Int.reduceBNe, Int.reduceEq, Int.reduceNe, Int.reduceAdd, Int.reduceSub, Int.reduceMul, Int.reduceNeg, Int.reduceTDiv, Int.reduceTMod, Int.reduceMod, Int.reduceDiv, ne_eq, DV.tup.injEq, DV.int.injEq, DV.bool.injEq, DV.agg.injEq, DV.str.injEq, List.cons.injEq, dPeq, hh', hl, Option.isSome_some]
  · simp only [d_reader_Reader_Ok, false_and, and_false, if_false, ite_true, ite_false, eI, eU, eB, eS, eBs, eL, eA, List.cons_append, List.take_succ_cons, List.drop_succ_cons, buildCells, List.take_zero, List.take_nil, ↓dwp_skip, ↓dwp_ops, ↓dwp_opsP, ↓dwp_cut, cut_some, cut_none, DV.cut, DV.inB, DV.inBL, DObj.cut, ↓dwp_opsS, sepsD, sepB, hdl, Only_set, Only_same, Only_zero, Only_succ, ↓dwp_seq, ↓dwp_block, ↓dwp_exit, ↓dwp_ret, ↓dwp_cond, dvalX, DOp.kind, dops_nil, dops_none, dops_some, ↓then_normal, ↓then_exit, ↓then_ret, ↓inBlock_normal, ↓inBlock_exit, ↓inBlock_ret, put_some, put_none, ev_t, ev_c, endP_normal, endP_ret, endH_normal, endH_ret, dval, frameFrom, get_cons, Nk.get_nil, Nat.reduceEqDiff, Nat.reduceAdd, ↓reduceIte, if_true, Nat.succ_ne_self, true_and, and_true, Bool.not_true, beq_ft, beq_tf, bne_ft, bne_tf, bne_self_eq_false, Bool.not_false, dBin, dInt, dStr, dBeq, dUn, dLoad, cellsAt, retV, retL, DR.val, fzT, fzVs, fzV, fz1, DV.immB, List.map_cons, List.map_nil, Option.map_some, Option.map_none, Bool.false_eq_true, false_implies, forall_const, Bool.true_eq_false, reduceCtorEq, implies_true, Int.toNat_natCast, Nat.zero_ne_one, Nat.one_ne_zero, Nat.reduceSub, List.length_cons, List.length_nil, List.getD_cons_zero, List.getD_cons_succ, Int.reduceToNat, IntKind.bits, Int.reducePow, Nat.reducePow, Nat.lt_add_one, Nat.zero_lt_one, Int.reduceLE, Int.reduceLT, Nat.reduceLeDiff, Nat.reduceLT, Nat.zero_add, IntKind.wrap_u64, IntKind.wrap_i64, IntKind.wrap_u8, decide_eq_true_eq, decide_eq_false_iff_not, Int.ofNat_lt, bsl_length, dCallP, viewVs, viewV, view1, viewL, noMemV, noMem, of_p, of_h, pOf_cons, hOf_cons, spec0_at, specB1_at, specB2_at, specB1_nil, specB2_nil1, specB2_nil2, specB2_nil3, spec1_at, List.all_cons, List.all_nil, Bool.and_true, Bool.and_false, Bool.true_and, Bool.false_and, not_true_eq_false, not_false_eq_true, List.getElem?_cons_zero, List.getElem?_cons_succ, List.set_cons_zero, List.set_set, List.set_cons_succ, elemsOf, dAppend, dStore, DV.one, alive, freezeAt, List.drop_zero, List.take_length, List.not_mem_nil, List.forall_mem_cons, List.nil_append, fzLL, fzL, bRow, bU, cellsOf, true_or, or_true, or_false, false_or, or_self, setFrom, DV.isU, beq_self_eq_true, List.length_set, List.length_append, List.length_replicate, decide_true, decide_false, gt_iff_lt, ge_iff_le, slice_lo, slice_hi, slice_both, List.getElem?_nil, Int.reduceBEq, Int.reduceBNe, Int.reduceEq, Int.reduceNe, Int.reduceAdd, Int.reduceSub, Int.reduceMul, Int.reduceNeg, Int.reduceTDiv, Int.reduceTMod, Int.reduceMod, Int.reduceDiv, ne_eq, DV.tup.injEq, DV.int.injEq, DV.bool.injEq, DV.agg.injEq, DV.str.injEq, List.cons.injEq, dPeq]
end Go.Proofs.Ytpohoagllmocnaa
