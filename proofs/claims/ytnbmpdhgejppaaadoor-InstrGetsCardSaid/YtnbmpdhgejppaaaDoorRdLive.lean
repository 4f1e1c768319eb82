/- Readers: what each function of a reader tells, and makes of it. -/
import Derived.Test.YtnbmpdhgejppaaaDoorOctBack2
set_option linter.all false
set_option maxRecDepth 20000
namespace Go.Proofs.YtnbmpdhgejppaaaDoor
open Go.Nk

/-! What reading is. -/
def ok62 (l : List UInt8) : Prop := l.length ≤ 4294967296

/-- So many bytes from a place on; the place behind them. A place that is none: it failed. -/
def nxt (l : List UInt8) : Option Nat → Int → Option (List UInt8) × Option Nat
  | none, _ => (none, none)
  | some a, n => if 0 ≤ n ∧ n ≤ (l.length : Int) - a then (some ((l.take (a + n.toNat)).drop a), some (a + n.toNat)) else (none, none)

def szN (size : Int) : Int := if size < 1 ∨ 4 < size then -1 else size

/-- A place within the bytes. -/
def inR (l : List UInt8) : Option Nat → Prop
  | none => True
  | some a => a ≤ l.length

theorem nxt_in {l : List UInt8} {s : Option Nat} (n : Int) (h : inR l s) : inR l (nxt l s n).2 := by
  cases s with
  | none => exact trivial
  | some a =>
    simp only [nxt]
    split
    · simp only [inR] at h ⊢; omega
    · exact trivial
/-! The reader of the program. -/
def oP : Option (List UInt8 × Nat) → DObj
  | some (l, a) => ⟨.loc, 3, [[.sl (bsl l), .bool true, .int .i64 a]]⟩
  | none => ⟨.loc, 3, [[.nil, .bool false, .int .i64 0]]⟩

theorem oP_inj : InjL oP := by
  intro x y h
  rcases x with _ | ⟨l, a⟩ <;> rcases y with _ | ⟨l', a'⟩ <;> simp [oP] at h
  · rfl
  · obtain ⟨h1, h2⟩ := h
    have h3 : a = a' := by omega
    rw [bsl_inj h1, h3]

def okP : Option (List UInt8 × Nat) → Prop
  | some (l, a) => a ≤ l.length ∧ ok62 l
  | none => True

def toP (l : List UInt8) (s : Option Nat) : Option (List UInt8 × Nat) := s.map fun a => (l, a)
theorem okP_to {l : List UInt8} {s : Option Nat} (h : inR l s) (hl : ok62 l) : okP (toP l s) := by
  cases s with
  | none => exact trivial
  | some a => exact ⟨h, hl⟩

def bsO : Option (List UInt8) → DV
  | some b => .sl (bsl b)
  | none => .nil

/-! fail: of a state at the head of a struct -/
structure HeadO where
  z : Nat
  c0 : DV
  c1 : DV
  r : List DV
def oHead (x : HeadO) : DObj := ⟨.loc, x.z, [x.c0 :: x.c1 :: x.r]⟩
theorem oHead_inj : InjL oHead := by
  rintro ⟨a, b, c, d⟩ ⟨a', b', c', d'⟩ h
  simp [oHead] at h
  obtain ⟨rfl, rfl, rfl, rfl⟩ := h
  rfl
noncomputable def s_fail : List DV → List DObj → Res := specM oHead (fun _ : Unit => []) (fun x _ => (True, .tup [], ⟨x.z, .nil, .bool false, x.r⟩)) (fun _ => (False, .undef))
theorem ok_reader_fail : OkH Tryd.prog 63 s_fail := by
  refine OkH.mkM (ps := []) (hs := []) trivial trivial m_reader_state_fail (fun _ => rfl) (fun n hp x a hh hl h => ?_) (fun hp a h => h.elim)
  have hh' : hp[n]? = some ⟨.loc, x.z, [x.c0 :: x.c1 :: x.r]⟩ := hh
  simp only [↓sqP, sqT, d_reader_state_fail, false_and, and_false, if_false, ite_true, ite_false, eI, eU, eB, eS, eBs, eL, eA, List.cons_append, List.take_succ_cons, List.drop_succ_cons, buildCells, List.take_zero, List.take_nil, ↓dwp_opsP, ↓dwp_cut, ↓dwp_rsv, cut_some, cut_none, DV.cut, DV.inB, DV.inBL, DObj.cut, ↓dwp_opsS, sepsD, sepB, hdl, Only_set, Only_same, Only_zero, Only_succ, ↓dwp_cond, dvalX, DOp.kind, dops_some, dval, frameFrom, Nat.reduceEqDiff, Nat.reduceAdd, ↓reduceIte, if_true, beq_ft, beq_tf, bne_ft, bne_tf, bne_self_eq_false, dBin, dInt, dStr, dBeq, dUn, dLoad, cellsAt, retV, retL, DR.val, fzT, fzVs, fzV, fz1, DV.immB, List.map_cons, List.map_nil, Option.map_some, Option.map_none, Bool.false_eq_true, forall_const, reduceCtorEq, implies_true, Nat.reduceSub, List.length_cons, List.length_nil, List.getD_cons_zero, List.getD_cons_succ, Int.reduceToNat, IntKind.bits, Int.reducePow, Nat.reducePow, Int.reduceLE, Int.reduceLT, Nat.reduceLeDiff, Nat.reduceLT, IntKind.wrap_u64, IntKind.wrap_i64, IntKind.wrap_u8, dCallP, viewVs, viewV, view1, capVL, capV, viewL, noMemV, noMem, spec0_at, specB1_nil, specB2_nil1, specB2_nil2, specB2_nil3, spec1_at, List.all_cons, List.all_nil, List.getElem?_cons_zero, List.getElem?_cons_succ, List.set_cons_zero, List.set_set, List.set_cons_succ, elemsOf, dAppend, dAppz, dStore, DV.one, alive, freezeAt, List.drop_zero, List.take_length, List.not_mem_nil, List.forall_mem_cons, List.nil_append, fzLL, fzL, bRow, bU, cellsOf, setFrom, DV.isU, beq_self_eq_true, List.length_set, List.length_append, List.length_replicate, gt_iff_lt, ge_iff_le, List.getElem?_nil, Int.reduceBEq, Int.reduceBNe, Int.reduceEq, Int.reduceNe, Int.reduceAdd, Int.reduceSub, Int.reduceMul, Int.reduceNeg, Int.reduceTDiv, Int.reduceTMod, Int.reduceMod, Int.reduceDiv, ne_eq, DV.tup.injEq, DV.int.injEq, DV.bool.injEq, DV.agg.injEq, DV.str.injEq, List.cons.injEq, hh', hl, oHead, List.getElem?_set_self hl, Nat.le_add_left, Nat.succ_le_succ_iff, Nat.zero_le]
theorem s_fail_at {hp : List DObj} {n : Nat} {z : Nat} {c0 c1 : DV} {r : List DV} (hh : hp[n]? = some ⟨.loc, z, [c0 :: c1 :: r]⟩) : s_fail [.ptr n 1 0 0] hp = ⟨True, .tup [], hp.set n ⟨.loc, z, [.nil :: .bool false :: r]⟩⟩ :=
  specM_at (r := ⟨z, c0, c1, r⟩) oHead_inj (injL_unit _) _ _ hh ()

/-! Ok, At, More -/
noncomputable def s_Ok : List DV → List DObj → Res := specM oP (fun _ : Unit => []) (fun r _ => (True, .bool r.isSome, r)) (fun _ => (True, .bool false))
theorem s_Ok_at {hp : List DObj} {n : Nat} {r : Option (List UInt8 × Nat)} (hh : hp[n]? = some (oP r)) : s_Ok [.ptr n 1 0 0] hp = ⟨True, .bool r.isSome, hp⟩ := by
  refine (specM_at oP_inj (injL_unit _) _ _ hh ()).trans ?_
  simp only [set_same hh]
theorem s_Ok_nil (hp : List DObj) : s_Ok [.nilp] hp = ⟨True, .bool false, hp⟩ := specM_nil (injL_unit _) _ _ hp ()
theorem ok_reader_Ok : OkH Tryd.prog 36 s_Ok := by
  refine OkH.mkM (ps := []) (hs := []) trivial trivial m_reader_Reader_Ok (fun _ => rfl) (fun n hp x a hh hl h => ?_) (fun hp a h => ?_)
  · simp only [set_same hh]
    rcases x with _ | ⟨l, b⟩
    · have hh' : hp[n]? = some ⟨.loc, 3, [[.nil, .bool false, .int .i64 0]]⟩ := hh
      simp only [↓sqP, sqT, d_reader_Reader_Ok, false_and, and_false, if_false, ite_true, ite_false, eI, eU, eB, eS, eBs, eL, eA, List.cons_append, List.take_succ_cons, List.drop_succ_cons, buildCells, List.take_zero, List.take_nil, ↓dwp_opsP, ↓dwp_cut, ↓dwp_rsv, cut_some, cut_none, DV.cut, DV.inB, DV.inBL, DObj.cut, ↓dwp_opsS, sepsD, sepB, hdl, Only_set, Only_same, Only_zero, Only_succ, ↓dwp_cond, dvalX, DOp.kind, dops_some, dval, frameFrom, Nat.reduceEqDiff, Nat.reduceAdd, ↓reduceIte, if_true, beq_ft, beq_tf, bne_ft, bne_tf, bne_self_eq_false, dBin, dInt, dStr, dBeq, dUn, dLoad, cellsAt, retV, retL, DR.val, fzT, fzVs, fzV, fz1, DV.immB, List.map_cons, List.map_nil, Option.map_some, Option.map_none, Bool.false_eq_true, forall_const, reduceCtorEq, implies_true, Nat.reduceSub, List.length_cons, List.length_nil, List.getD_cons_zero, List.getD_cons_succ, Int.reduceToNat, IntKind.bits, Int.reducePow, Nat.reducePow, Int.reduceLE, Int.reduceLT, Nat.reduceLeDiff, Nat.reduceLT, IntKind.wrap_u64, IntKind.wrap_i64, IntKind.wrap_u8, dCallP, viewVs, viewV, view1, capVL, capV, viewL, noMemV, noMem, spec0_at, specB1_nil, specB2_nil1, specB2_nil2, specB2_nil3, spec1_at, List.all_cons, List.all_nil, List.getElem?_cons_zero, List.getElem?_cons_succ, List.set_cons_zero, List.set_set, List.set_cons_succ, elemsOf, dAppend, dAppz, dStore, DV.one, alive, freezeAt, List.drop_zero, List.take_length, List.not_mem_nil, List.forall_mem_cons, List.nil_append, fzLL, fzL, bRow, bU, cellsOf, setFrom, DV.isU, beq_self_eq_true, List.length_set, List.length_append, List.length_replicate, gt_iff_lt, ge_iff_le, List.getElem?_nil, Int.reduceBEq, Int.reduceBNe, Int.reduceEq, Int.reduceNe, Int.reduceAdd, Int.reduceSub, Int.reduceMul, Int.reduceNeg, Int.reduceTDiv, Int.reduceTMod, Int.reduceMod, Int.reduceDiv, ne_eq, DV.tup.injEq, DV.int.injEq, DV.bool.injEq, DV.agg.injEq, DV.str.injEq, List.cons.injEq, dPeq, hh', hl, Option.isSome_none]
    · have hh' : hp[n]? = some ⟨.loc, 3, [[.sl (bsl l), .bool true, .int .i64 b]]⟩ := hh
      simp only [↓sqP, sqT, d_reader_Reader_Ok, false_and, and_false, if_false, ite_true, ite_false, eI, eU, eB, eS, eBs, eL, eA, List.cons_append, List.take_succ_cons, List.drop_succ_cons, buildCells, List.take_zero, List.take_nil, ↓dwp_opsP, ↓dwp_cut, ↓dwp_rsv, cut_some, cut_none, DV.cut, DV.inB, DV.inBL, DObj.cut, ↓dwp_opsS, sepsD, sepB, hdl, Only_set, Only_same, Only_zero, Only_succ, ↓dwp_cond, dvalX, DOp.kind, dops_some, dval, frameFrom, Nat.reduceEqDiff, Nat.reduceAdd, ↓reduceIte, if_true, beq_ft, beq_tf, bne_ft, bne_tf, bne_self_eq_false, dBin, dInt, dStr, dBeq, dUn, dLoad, cellsAt, retV, retL, DR.val, fzT, fzVs, fzV, fz1, DV.immB, List.map_cons, List.map_nil, Option.map_some, Option.map_none, Bool.false_eq_true, forall_const, reduceCtorEq, implies_true, Nat.reduceSub, List.length_cons, List.length_nil, List.getD_cons_zero, List.getD_cons_succ, Int.reduceToNat, IntKind.bits, Int.reducePow, Nat.reducePow, Int.reduceLE, Int.reduceLT, Nat.reduceLeDiff, Nat.reduceLT, IntKind.wrap_u64, IntKind.wrap_i64, IntKind.wrap_u8, dCallP, viewVs, viewV, view1, capVL, capV, viewL, noMemV, noMem, spec0_at, specB1_nil, specB2_nil1, specB2_nil2, specB2_nil3, spec1_at, List.all_cons, List.all_nil, List.getElem?_cons_zero, List.getElem?_cons_succ, List.set_cons_zero, List.set_set, List.set_cons_succ, elemsOf, dAppend, dAppz, dStore, DV.one, alive, freezeAt, List.drop_zero, List.take_length, List.not_mem_nil, List.forall_mem_cons, List.nil_append, fzLL, fzL, bRow, bU, cellsOf, setFrom, DV.isU, beq_self_eq_true, List.length_set, List.length_append, List.length_replicate, gt_iff_lt, ge_iff_le, List.getElem?_nil, Int.reduceBEq, Int.reduceBNe, Int.reduceEq, Int.reduceNe, Int.reduceAdd, Int.reduceSub, Int.reduceMul, Int.reduceNeg, Int.reduceTDiv, Int.reduceTMod, Int.reduceMod, Int.reduceDiv, ne_eq, DV.tup.injEq, DV.int.injEq, DV.bool.injEq, DV.agg.injEq, DV.str.injEq, List.cons.injEq, dPeq, hh', hl, Option.isSome_some]
  · simp only [↓sqP, sqT, d_reader_Reader_Ok, false_and, and_false, if_false, ite_true, ite_false, eI, eU, eB, eS, eBs, eL, eA, List.cons_append, List.take_succ_cons, List.drop_succ_cons, buildCells, List.take_zero, List.take_nil, ↓dwp_opsP, ↓dwp_cut, ↓dwp_rsv, cut_some, cut_none, DV.cut, DV.inB, DV.inBL, DObj.cut, ↓dwp_opsS, sepsD, sepB, hdl, Only_set, Only_same, Only_zero, Only_succ, ↓dwp_cond, dvalX, DOp.kind, dops_some, dval, frameFrom, Nat.reduceEqDiff, Nat.reduceAdd, ↓reduceIte, if_true, beq_ft, beq_tf, bne_ft, bne_tf, bne_self_eq_false, dBin, dInt, dStr, dBeq, dUn, dLoad, cellsAt, retV, retL, DR.val, fzT, fzVs, fzV, fz1, DV.immB, List.map_cons, List.map_nil, Option.map_some, Option.map_none, Bool.false_eq_true, forall_const, reduceCtorEq, implies_true, Nat.reduceSub, List.length_cons, List.length_nil, List.getD_cons_zero, List.getD_cons_succ, Int.reduceToNat, IntKind.bits, Int.reducePow, Nat.reducePow, Int.reduceLE, Int.reduceLT, Nat.reduceLeDiff, Nat.reduceLT, IntKind.wrap_u64, IntKind.wrap_i64, IntKind.wrap_u8, dCallP, viewVs, viewV, view1, capVL, capV, viewL, noMemV, noMem, spec0_at, specB1_nil, specB2_nil1, specB2_nil2, specB2_nil3, spec1_at, List.all_cons, List.all_nil, List.getElem?_cons_zero, List.getElem?_cons_succ, List.set_cons_zero, List.set_set, List.set_cons_succ, elemsOf, dAppend, dAppz, dStore, DV.one, alive, freezeAt, List.drop_zero, List.take_length, List.not_mem_nil, List.forall_mem_cons, List.nil_append, fzLL, fzL, bRow, bU, cellsOf, setFrom, DV.isU, beq_self_eq_true, List.length_set, List.length_append, List.length_replicate, gt_iff_lt, ge_iff_le, List.getElem?_nil, Int.reduceBEq, Int.reduceBNe, Int.reduceEq, Int.reduceNe, Int.reduceAdd, Int.reduceSub, Int.reduceMul, Int.reduceNeg, Int.reduceTDiv, Int.reduceTMod, Int.reduceMod, Int.reduceDiv, ne_eq, DV.tup.injEq, DV.int.injEq, DV.bool.injEq, DV.agg.injEq, DV.str.injEq, List.cons.injEq, dPeq]
end Go.Proofs.YtnbmpdhgejppaaaDoor

/- Readers of the program: At, More, next, and what is read by it. -/
set_option linter.all false
set_option maxRecDepth 20000
namespace Go.Proofs.YtnbmpdhgejppaaaDoor
open Go.Nk

theorem slice_three {hp : List DObj} {l : List UInt8} {k k' k'' : IntKind} {a b c : Int} : dSlice hp 1 (.sl (bsl l)) (some (.int k a)) (some (.int k' b)) (some (.int k'' c)) = (0 ≤ a ∧ a ≤ b ∧ b ≤ c ∧ c ≤ l.length, .sl (bsl ((l.take b.toNat).drop a.toNat))) := by
  simp only [dSlice, dBound, bsl_length, Option.isSome_some, Prod.mk.injEq]
  refine ⟨propext ⟨fun h => ⟨h.2.2.2.2.2.1, h.2.2.2.2.2.2.1, h.2.2.2.2.2.2.2.1, h.2.2.2.2.2.2.2.2⟩, fun h => ⟨bsl_rows, trivial, trivial, trivial, by simp, h.1, h.2.1, h.2.2.1, h.2.2.2⟩⟩, ?_⟩
  rw [bsl_take, bsl_drop]

/-! At -/
def moreO : Option (List UInt8 × Nat) → Bool
  | some (l, a) => decide (a < l.length)
  | none => false
noncomputable def s_More : List DV → List DObj → Res := specM oP (fun _ : Unit => []) (fun r _ => (True, .bool (moreO r), r)) (fun _ => (True, .bool false))
theorem s_More_at {hp : List DObj} {n : Nat} {r : Option (List UInt8 × Nat)} (hh : hp[n]? = some (oP r)) : s_More [.ptr n 1 0 0] hp = ⟨True, .bool (moreO r), hp⟩ := by
  refine (specM_at oP_inj (injL_unit _) _ _ hh ()).trans ?_
  simp only [set_same hh]
theorem ok_reader_More : OkH Tryd.prog 34 s_More := by
  refine OkH.mkM (ps := []) (hs := [(36, s_Ok)]) trivial ⟨ok_reader_Ok, trivial⟩ m_reader_Reader_More (fun _ => rfl) (fun n hp x a hh hl h => ?_) (fun hp a h => ?_)
  · simp only [set_same hh]
    have o1 := s_Ok_at hh
    rcases x with _ | ⟨l, b⟩
    · simp only [↓sqP, sqT, d_reader_Reader_More, false_and, and_false, if_false, ite_true, ite_false, eI, eU, eB, eS, eBs, eL, eA, List.cons_append, List.take_succ_cons, List.drop_succ_cons, buildCells, List.take_zero, List.take_nil, ↓dwp_opsP, ↓dwp_cut, ↓dwp_rsv, cut_some, cut_none, DV.cut, DV.inB, DV.inBL, DObj.cut, ↓dwp_opsS, sepsD, sepB, hdl, Only_set, Only_same, Only_zero, Only_succ, ↓dwp_cond, dvalX, DOp.kind, dops_some, dval, frameFrom, Nat.reduceEqDiff, Nat.reduceAdd, ↓reduceIte, if_true, beq_ft, beq_tf, bne_ft, bne_tf, bne_self_eq_false, dBin, dInt, dStr, dBeq, dUn, dLoad, cellsAt, retV, retL, DR.val, fzT, fzVs, fzV, fz1, DV.immB, List.map_cons, List.map_nil, Option.map_some, Option.map_none, Bool.false_eq_true, forall_const, reduceCtorEq, implies_true, Nat.reduceSub, List.length_cons, List.length_nil, List.getD_cons_zero, List.getD_cons_succ, Int.reduceToNat, IntKind.bits, Int.reducePow, Nat.reducePow, Int.reduceLE, Int.reduceLT, Nat.reduceLeDiff, Nat.reduceLT, IntKind.wrap_u64, IntKind.wrap_i64, IntKind.wrap_u8, dCallP, viewVs, viewV, view1, capVL, capV, viewL, noMemV, noMem, spec0_at, specB1_nil, specB2_nil1, specB2_nil2, specB2_nil3, spec1_at, List.all_cons, List.all_nil, List.getElem?_cons_zero, List.getElem?_cons_succ, List.set_cons_zero, List.set_set, List.set_cons_succ, elemsOf, dAppend, dAppz, dStore, DV.one, alive, freezeAt, List.drop_zero, List.take_length, List.not_mem_nil, List.forall_mem_cons, List.nil_append, fzLL, fzL, bRow, bU, cellsOf, setFrom, DV.isU, beq_self_eq_true, List.length_set, List.length_append, List.length_replicate, gt_iff_lt, ge_iff_le, List.getElem?_nil, Int.reduceBEq, Int.reduceBNe, Int.reduceEq, Int.reduceNe, Int.reduceAdd, Int.reduceSub, Int.reduceMul, Int.reduceNeg, Int.reduceTDiv, Int.reduceTMod, Int.reduceMod, Int.reduceDiv, ne_eq, DV.tup.injEq, DV.int.injEq, DV.bool.injEq, DV.agg.injEq, DV.str.injEq, List.cons.injEq, o1, Option.isSome_none, moreO]
    · have hh' : hp[n]? = some ⟨.loc, 3, [[.sl (bsl l), .bool true, .int .i64 b]]⟩ := hh
      simp only [↓sqP, sqT, d_reader_Reader_More, false_and, and_false, if_false, ite_true, ite_false, eI, eU, eB, eS, eBs, eL, eA, List.cons_append, List.take_succ_cons, List.drop_succ_cons, buildCells, List.take_zero, List.take_nil, ↓dwp_opsP, ↓dwp_cut, ↓dwp_rsv, cut_some, cut_none, DV.cut, DV.inB, DV.inBL, DObj.cut, ↓dwp_opsS, sepsD, sepB, hdl, Only_set, Only_same, Only_zero, Only_succ, ↓dwp_cond, dvalX, DOp.kind, dops_some, dval, frameFrom, Nat.reduceEqDiff, Nat.reduceAdd, ↓reduceIte, if_true, beq_ft, beq_tf, bne_ft, bne_tf, bne_self_eq_false, dBin, dInt, dStr, dBeq, dUn, dLoad, cellsAt, retV, retL, DR.val, fzT, fzVs, fzV, fz1, DV.immB, List.map_cons, List.map_nil, Option.map_some, Option.map_none, Bool.false_eq_true, forall_const, reduceCtorEq, implies_true, Nat.reduceSub, List.length_cons, List.length_nil, List.getD_cons_zero, List.getD_cons_succ, Int.reduceToNat, IntKind.bits, Int.reducePow, Nat.reducePow, Int.reduceLE, Int.reduceLT, Nat.reduceLeDiff, Nat.reduceLT, IntKind.wrap_u64, IntKind.wrap_i64, IntKind.wrap_u8, dCallP, viewVs, viewV, view1, capVL, capV, viewL, noMemV, noMem, spec0_at, specB1_nil, specB2_nil1, specB2_nil2, specB2_nil3, spec1_at, List.all_cons, List.all_nil, List.getElem?_cons_zero, List.getElem?_cons_succ, List.set_cons_zero, List.set_set, List.set_cons_succ, elemsOf, dAppend, dAppz, dStore, DV.one, alive, freezeAt, List.drop_zero, List.take_length, List.not_mem_nil, List.forall_mem_cons, List.nil_append, fzLL, fzL, bRow, bU, cellsOf, setFrom, DV.isU, beq_self_eq_true, List.length_set, List.length_append, List.length_replicate, gt_iff_lt, ge_iff_le, List.getElem?_nil, Int.reduceBEq, Int.reduceBNe, Int.reduceEq, Int.reduceNe, Int.reduceAdd, Int.reduceSub, Int.reduceMul, Int.reduceNeg, Int.reduceTDiv, Int.reduceTMod, Int.reduceMod, Int.reduceDiv, ne_eq, DV.tup.injEq, DV.int.injEq, DV.bool.injEq, DV.agg.injEq, DV.str.injEq, List.cons.injEq, o1, Option.isSome_some, hh', moreO]
  · simp only [↓sqP, sqT, d_reader_Reader_More, false_and, and_false, if_false, ite_true, ite_false, eI, eU, eB, eS, eBs, eL, eA, List.cons_append, List.take_succ_cons, List.drop_succ_cons, buildCells, List.take_zero, List.take_nil, ↓dwp_opsP, ↓dwp_cut, ↓dwp_rsv, cut_some, cut_none, DV.cut, DV.inB, DV.inBL, DObj.cut, ↓dwp_opsS, sepsD, sepB, hdl, Only_set, Only_same, Only_zero, Only_succ, ↓dwp_cond, dvalX, DOp.kind, dops_some, dval, frameFrom, Nat.reduceEqDiff, Nat.reduceAdd, ↓reduceIte, if_true, beq_ft, beq_tf, bne_ft, bne_tf, bne_self_eq_false, dBin, dInt, dStr, dBeq, dUn, dLoad, cellsAt, retV, retL, DR.val, fzT, fzVs, fzV, fz1, DV.immB, List.map_cons, List.map_nil, Option.map_some, Option.map_none, Bool.false_eq_true, forall_const, reduceCtorEq, implies_true, Nat.reduceSub, List.length_cons, List.length_nil, List.getD_cons_zero, List.getD_cons_succ, Int.reduceToNat, IntKind.bits, Int.reducePow, Nat.reducePow, Int.reduceLE, Int.reduceLT, Nat.reduceLeDiff, Nat.reduceLT, IntKind.wrap_u64, IntKind.wrap_i64, IntKind.wrap_u8, dCallP, viewVs, viewV, view1, capVL, capV, viewL, noMemV, noMem, spec0_at, specB1_nil, specB2_nil1, specB2_nil2, specB2_nil3, spec1_at, List.all_cons, List.all_nil, List.getElem?_cons_zero, List.getElem?_cons_succ, List.set_cons_zero, List.set_set, List.set_cons_succ, elemsOf, dAppend, dAppz, dStore, DV.one, alive, freezeAt, List.drop_zero, List.take_length, List.not_mem_nil, List.forall_mem_cons, List.nil_append, fzLL, fzL, bRow, bU, cellsOf, setFrom, DV.isU, beq_self_eq_true, List.length_set, List.length_append, List.length_replicate, gt_iff_lt, ge_iff_le, List.getElem?_nil, Int.reduceBEq, Int.reduceBNe, Int.reduceEq, Int.reduceNe, Int.reduceAdd, Int.reduceSub, Int.reduceMul, Int.reduceNeg, Int.reduceTDiv, Int.reduceTMod, Int.reduceMod, Int.reduceDiv, ne_eq, DV.tup.injEq, DV.int.injEq, DV.bool.injEq, DV.agg.injEq, DV.str.injEq, List.cons.injEq, s_Ok_nil]

/-! next -/
def nextV (r : Option (List UInt8 × Nat)) (n : Int) : Option (List UInt8) := match r with
  | some (l, a) => (nxt l (some a) n).1
  | none => none
def nextS (r : Option (List UInt8 × Nat)) (n : Int) : Option (List UInt8 × Nat) := match r with
  | some (l, a) => toP l (nxt l (some a) n).2
  | none => none
noncomputable def s_next : List DV → List DObj → Res := specM oP (fun n : Int => [.int .i64 n]) (fun r n => (okP r, bsO (nextV r n), nextS r n)) (fun _ => (True, .nil))
theorem s_next_at {hp : List DObj} {n : Nat} {r : Option (List UInt8 × Nat)} (hh : hp[n]? = some (oP r)) (k : Int) : s_next [.ptr n 1 0 0, .int .i64 k] hp = ⟨okP r, bsO (nextV r k), hp.set n (oP (nextS r k))⟩ :=
  specM_at oP_inj injL_int _ _ hh k
theorem s_next_nil (hp : List DObj) (k : Int) : s_next [.nilp, .int .i64 k] hp = ⟨True, .nil, hp⟩ := specM_nil injL_int _ _ hp k

theorem nextS_ok {r : Option (List UInt8 × Nat)} (n : Int) (h : okP r) : okP (nextS r n) := by
  rcases r with _ | ⟨l, a⟩
  · exact trivial
  · exact okP_to (nxt_in (s := some a) n h.1) h.2

theorem ok_reader_next : OkH Tryd.prog 68 s_next := by
  refine OkH.mkM (ps := []) (hs := [(36, s_Ok), (63, s_fail)]) trivial ⟨ok_reader_Ok, ok_reader_fail, trivial⟩ m_reader_Reader_next (fun _ => rfl) (fun n hp x k hh hl h => ?_) (fun hp a h => ?_)
  · have o1 := s_Ok_at hh
    rcases x with _ | ⟨l, a⟩
    · have e : hp.set n (oP (nextS none k)) = hp := set_same hh
      simp only [↓sqP, sqT, d_reader_Reader_next, false_and, and_false, if_false, ite_true, ite_false, eI, eU, eB, eS, eBs, eL, eA, List.cons_append, List.take_succ_cons, List.drop_succ_cons, buildCells, List.take_zero, List.take_nil, ↓dwp_opsP, ↓dwp_cut, ↓dwp_rsv, cut_some, cut_none, DV.cut, DV.inB, DV.inBL, DObj.cut, ↓dwp_opsS, sepsD, sepB, hdl, Only_set, Only_same, Only_zero, Only_succ, ↓dwp_cond, dvalX, DOp.kind, dops_some, dval, frameFrom, Nat.reduceEqDiff, Nat.reduceAdd, ↓reduceIte, if_true, beq_ft, beq_tf, bne_ft, bne_tf, bne_self_eq_false, dBin, dInt, dStr, dBeq, dUn, dLoad, cellsAt, retV, retL, DR.val, fzT, fzVs, fzV, fz1, DV.immB, List.map_cons, List.map_nil, Option.map_some, Option.map_none, Bool.false_eq_true, forall_const, reduceCtorEq, implies_true, Nat.reduceSub, List.length_cons, List.length_nil, List.getD_cons_zero, List.getD_cons_succ, Int.reduceToNat, IntKind.bits, Int.reducePow, Nat.reducePow, Int.reduceLE, Int.reduceLT, Nat.reduceLeDiff, Nat.reduceLT, IntKind.wrap_u64, IntKind.wrap_i64, IntKind.wrap_u8, dCallP, viewVs, viewV, view1, capVL, capV, viewL, noMemV, noMem, spec0_at, specB1_nil, specB2_nil1, specB2_nil2, specB2_nil3, spec1_at, List.all_cons, List.all_nil, List.getElem?_cons_zero, List.getElem?_cons_succ, List.set_cons_zero, List.set_set, List.set_cons_succ, elemsOf, dAppend, dAppz, dStore, DV.one, alive, freezeAt, List.drop_zero, List.take_length, List.not_mem_nil, List.forall_mem_cons, List.nil_append, fzLL, fzL, bRow, bU, cellsOf, setFrom, DV.isU, beq_self_eq_true, List.length_set, List.length_append, List.length_replicate, gt_iff_lt, ge_iff_le, List.getElem?_nil, Int.reduceBEq, Int.reduceBNe, Int.reduceEq, Int.reduceNe, Int.reduceAdd, Int.reduceSub, Int.reduceMul, Int.reduceNeg, Int.reduceTDiv, Int.reduceTMod, Int.reduceMod, Int.reduceDiv, ne_eq, DV.tup.injEq, DV.int.injEq, DV.bool.injEq, DV.agg.injEq, DV.str.injEq, List.cons.injEq, o1, Option.isSome_none, nextV, bsO, e]
    · have hh' : hp[n]? = some ⟨.loc, 3, [[.sl (bsl l), .bool true, .int .i64 a]]⟩ := hh
      obtain ⟨ha, hlen⟩ := h
      unfold ok62 at hlen
      have w1 : IntKind.i64.wrap ((l.length : Int) - (a : Int)) = (l.length : Int) - (a : Int) := wrap_i64_id (by omega)
      have f1 := s_fail_at hh'
      have g1 : (hp.set n ⟨.loc, 3, [[.nil, .bool false, .int .i64 a]]⟩)[n]? = some ⟨.loc, 3, [[.nil, .bool false, .int .i64 a]]⟩ := List.getElem?_set_self hl
      by_cases h0 : k < 0
      · have e1 : nxt l (some a) k = (none, none) := by simp only [nxt]; rw [if_neg (by omega)]
        have d0 : decide (k < 0) = true := by simp [h0]
        simp only [↓sqP, sqT, d_reader_Reader_next, false_and, and_false, if_false, ite_true, ite_false, eI, eU, eB, eS, eBs, eL, eA, List.cons_append, List.take_succ_cons, List.drop_succ_cons, buildCells, List.take_zero, List.take_nil, ↓dwp_opsP, ↓dwp_cut, ↓dwp_rsv, cut_some, cut_none, DV.cut, DV.inB, DV.inBL, DObj.cut, ↓dwp_opsS, sepsD, sepB, hdl, Only_set, Only_same, Only_zero, Only_succ, ↓dwp_cond, dvalX, DOp.kind, dops_some, dval, frameFrom, Nat.reduceEqDiff, Nat.reduceAdd, ↓reduceIte, if_true, beq_ft, beq_tf, bne_ft, bne_tf, bne_self_eq_false, dBin, dInt, dStr, dBeq, dUn, dLoad, cellsAt, retV, retL, DR.val, fzT, fzVs, fzV, fz1, DV.immB, List.map_cons, List.map_nil, Option.map_some, Option.map_none, Bool.false_eq_true, forall_const, reduceCtorEq, implies_true, Nat.reduceSub, List.length_cons, List.length_nil, List.getD_cons_zero, List.getD_cons_succ, Int.reduceToNat, IntKind.bits, Int.reducePow, Nat.reducePow, Int.reduceLE, Int.reduceLT, Nat.reduceLeDiff, Nat.reduceLT, dCallP, viewVs, viewV, view1, capVL, capV, viewL, noMemV, noMem, spec0_at, specB1_nil, specB2_nil1, specB2_nil2, specB2_nil3, spec1_at, List.all_cons, List.all_nil, List.getElem?_cons_zero, List.getElem?_cons_succ, List.set_cons_zero, List.set_set, List.set_cons_succ, elemsOf, dAppend, dAppz, dStore, DV.one, alive, freezeAt, List.drop_zero, List.take_length, List.not_mem_nil, List.forall_mem_cons, List.nil_append, fzLL, fzL, bRow, bU, cellsOf, setFrom, DV.isU, beq_self_eq_true, List.length_set, List.length_append, List.length_replicate, gt_iff_lt, ge_iff_le, List.getElem?_nil, Int.reduceBEq, Int.reduceBNe, Int.reduceEq, Int.reduceNe, Int.reduceAdd, Int.reduceSub, Int.reduceMul, Int.reduceNeg, Int.reduceTDiv, Int.reduceTMod, Int.reduceMod, Int.reduceDiv, ne_eq, DV.tup.injEq, DV.int.injEq, DV.bool.injEq, DV.agg.injEq, DV.str.injEq, List.cons.injEq, o1, Option.isSome_some, d0, f1, g1, hh', nextV, nextS, e1, bsO, toP, oP]
      have d0 : decide (k < 0) = false := by simp [h0]
      by_cases h1 : (l.length : Int) - a < k
      · have e1 : nxt l (some a) k = (none, none) := by simp only [nxt]; rw [if_neg (by omega)]
        have d1 : decide ((l.length : Int) - a < k) = true := by simp [h1]
        simp only [↓sqP, sqT, d_reader_Reader_next, false_and, and_false, if_false, ite_true, ite_false, eI, eU, eB, eS, eBs, eL, eA, List.cons_append, List.take_succ_cons, List.drop_succ_cons, buildCells, List.take_zero, List.take_nil, ↓dwp_opsP, ↓dwp_cut, ↓dwp_rsv, cut_some, cut_none, DV.cut, DV.inB, DV.inBL, DObj.cut, ↓dwp_opsS, sepsD, sepB, hdl, Only_set, Only_same, Only_zero, Only_succ, ↓dwp_cond, dvalX, DOp.kind, dops_some, dval, frameFrom, Nat.reduceEqDiff, Nat.reduceAdd, ↓reduceIte, if_true, beq_ft, beq_tf, bne_ft, bne_tf, bne_self_eq_false, dBin, dInt, dStr, dBeq, dUn, dLoad, cellsAt, retV, retL, DR.val, fzT, fzVs, fzV, fz1, DV.immB, List.map_cons, List.map_nil, Option.map_some, Option.map_none, Bool.false_eq_true, forall_const, reduceCtorEq, implies_true, Nat.reduceSub, List.length_cons, List.length_nil, List.getD_cons_zero, List.getD_cons_succ, Int.reduceToNat, IntKind.bits, Int.reducePow, Nat.reducePow, Int.reduceLE, Int.reduceLT, Nat.reduceLeDiff, Nat.reduceLT, dCallP, viewVs, viewV, view1, capVL, capV, viewL, noMemV, noMem, spec0_at, specB1_nil, specB2_nil1, specB2_nil2, specB2_nil3, spec1_at, List.all_cons, List.all_nil, List.getElem?_cons_zero, List.getElem?_cons_succ, List.set_cons_zero, List.set_set, List.set_cons_succ, elemsOf, dAppend, dAppz, dStore, DV.one, alive, freezeAt, List.drop_zero, List.take_length, List.not_mem_nil, List.forall_mem_cons, List.nil_append, fzLL, fzL, bRow, bU, cellsOf, setFrom, DV.isU, beq_self_eq_true, List.length_set, List.length_append, List.length_replicate, gt_iff_lt, ge_iff_le, List.getElem?_nil, Int.reduceBEq, Int.reduceBNe, Int.reduceEq, Int.reduceNe, Int.reduceAdd, Int.reduceSub, Int.reduceMul, Int.reduceNeg, Int.reduceTDiv, Int.reduceTMod, Int.reduceMod, Int.reduceDiv, ne_eq, DV.tup.injEq, DV.int.injEq, DV.bool.injEq, DV.agg.injEq, DV.str.injEq, List.cons.injEq, o1, Option.isSome_some, d0, d1, w1, f1, g1, hh', nextV, nextS, e1, bsO, toP, oP]
      · have e1 : nxt l (some a) k = (some ((l.take (a + k.toNat)).drop a), some (a + k.toNat)) := by simp only [nxt]; rw [if_pos (by omega)]
        have d1 : decide ((l.length : Int) - a < k) = false := by simp [h1]
        have w2 : IntKind.i64.wrap ((a : Int) + k) = ((a + k.toNat : Nat) : Int) := by rw [wrap_i64_id (by omega)]; omega
        have g2 : (hp.set n ⟨.loc, 3, [[.sl (bsl l), .bool true, .int .i64 ((a + k.toNat : Nat) : Int)]]⟩)[n]? = some ⟨.loc, 3, [[.sl (bsl l), .bool true, .int .i64 ((a + k.toNat : Nat) : Int)]]⟩ := List.getElem?_set_self hl
        simp only [↓sqP, sqT, d_reader_Reader_next, false_and, and_false, if_false, ite_true, ite_false, eI, eU, eB, eS, eBs, eL, eA, List.cons_append, List.take_succ_cons, List.drop_succ_cons, buildCells, List.take_zero, List.take_nil, ↓dwp_opsP, ↓dwp_cut, ↓dwp_rsv, cut_some, cut_none, DV.cut, DV.inB, DV.inBL, DObj.cut, ↓dwp_opsS, sepsD, sepB, hdl, Only_set, Only_same, Only_zero, Only_succ, ↓dwp_cond, dvalX, DOp.kind, dops_some, dval, frameFrom, Nat.reduceEqDiff, Nat.reduceAdd, ↓reduceIte, if_true, beq_ft, beq_tf, bne_ft, bne_tf, bne_self_eq_false, dBin, dInt, dStr, dBeq, dUn, dLoad, cellsAt, retV, retL, DR.val, fzT, fzVs, fzV, fz1, DV.immB, List.map_cons, List.map_nil, Option.map_some, Option.map_none, Bool.false_eq_true, forall_const, reduceCtorEq, implies_true, Nat.reduceSub, List.length_cons, List.length_nil, List.getD_cons_zero, List.getD_cons_succ, Int.reduceToNat, IntKind.bits, Int.reducePow, Nat.reducePow, Int.reduceLE, Int.reduceLT, Nat.reduceLeDiff, Nat.reduceLT, dCallP, viewVs, viewV, view1, capVL, capV, viewL, noMemV, noMem, spec0_at, specB1_nil, specB2_nil1, specB2_nil2, specB2_nil3, spec1_at, List.all_cons, List.all_nil, List.getElem?_cons_zero, List.getElem?_cons_succ, List.set_cons_zero, List.set_set, List.set_cons_succ, elemsOf, dAppend, dAppz, dStore, DV.one, alive, freezeAt, List.drop_zero, List.take_length, List.not_mem_nil, List.forall_mem_cons, List.nil_append, fzLL, fzL, bRow, bU, cellsOf, setFrom, DV.isU, beq_self_eq_true, List.length_set, List.length_append, List.length_replicate, gt_iff_lt, ge_iff_le, List.getElem?_nil, Int.reduceBEq, Int.reduceBNe, Int.reduceEq, Int.reduceNe, Int.reduceAdd, Int.reduceSub, Int.reduceMul, Int.reduceNeg, Int.reduceTDiv, Int.reduceTMod, Int.reduceMod, Int.reduceDiv, ne_eq, DV.tup.injEq, DV.int.injEq, DV.bool.injEq, DV.agg.injEq, DV.str.injEq, List.cons.injEq, o1, Option.isSome_some, d0, d1, w1, w2, g2, hh', nextV, nextS, e1, bsO, toP, oP, slice_three]
        omega
  · simp only [↓sqP, sqT, d_reader_Reader_next, false_and, and_false, if_false, ite_true, ite_false, eI, eU, eB, eS, eBs, eL, eA, List.cons_append, List.take_succ_cons, List.drop_succ_cons, buildCells, List.take_zero, List.take_nil, ↓dwp_opsP, ↓dwp_cut, ↓dwp_rsv, cut_some, cut_none, DV.cut, DV.inB, DV.inBL, DObj.cut, ↓dwp_opsS, sepsD, sepB, hdl, Only_set, Only_same, Only_zero, Only_succ, ↓dwp_cond, dvalX, DOp.kind, dops_some, dval, frameFrom, Nat.reduceEqDiff, Nat.reduceAdd, ↓reduceIte, if_true, beq_ft, beq_tf, bne_ft, bne_tf, bne_self_eq_false, dBin, dInt, dStr, dBeq, dUn, dLoad, cellsAt, retV, retL, DR.val, fzT, fzVs, fzV, fz1, DV.immB, List.map_cons, List.map_nil, Option.map_some, Option.map_none, Bool.false_eq_true, forall_const, reduceCtorEq, implies_true, Nat.reduceSub, List.length_cons, List.length_nil, List.getD_cons_zero, List.getD_cons_succ, Int.reduceToNat, IntKind.bits, Int.reducePow, Nat.reducePow, Int.reduceLE, Int.reduceLT, Nat.reduceLeDiff, Nat.reduceLT, IntKind.wrap_u64, IntKind.wrap_i64, IntKind.wrap_u8, dCallP, viewVs, viewV, view1, capVL, capV, viewL, noMemV, noMem, spec0_at, specB1_nil, specB2_nil1, specB2_nil2, specB2_nil3, spec1_at, List.all_cons, List.all_nil, List.getElem?_cons_zero, List.getElem?_cons_succ, List.set_cons_zero, List.set_set, List.set_cons_succ, elemsOf, dAppend, dAppz, dStore, DV.one, alive, freezeAt, List.drop_zero, List.take_length, List.not_mem_nil, List.forall_mem_cons, List.nil_append, fzLL, fzL, bRow, bU, cellsOf, setFrom, DV.isU, beq_self_eq_true, List.length_set, List.length_append, List.length_replicate, gt_iff_lt, ge_iff_le, List.getElem?_nil, Int.reduceBEq, Int.reduceBNe, Int.reduceEq, Int.reduceNe, Int.reduceAdd, Int.reduceSub, Int.reduceMul, Int.reduceNeg, Int.reduceTDiv, Int.reduceTMod, Int.reduceMod, Int.reduceDiv, ne_eq, DV.tup.injEq, DV.int.injEq, DV.bool.injEq, DV.agg.injEq, DV.str.injEq, List.cons.injEq, s_Ok_nil]
/-! Num -/
def numV (r : Option (List UInt8 × Nat)) (k : Int) : Int := IntKind.i64.wrap (getF ((nextV r (szN k)).getD []))
noncomputable def s_Num : List DV → List DObj → Res := specM oP (fun n : Int => [.int .i64 n]) (fun r n => (okP r, .int .i64 (numV r n), nextS r (szN n))) (fun _ => (True, .int .i64 0))
theorem s_Num_at {hp : List DObj} {n : Nat} {r : Option (List UInt8 × Nat)} (hh : hp[n]? = some (oP r)) (k : Int) : s_Num [.ptr n 1 0 0, .int .i64 k] hp = ⟨okP r, .int .i64 (numV r k), hp.set n (oP (nextS r (szN k)))⟩ :=
  specM_at oP_inj injL_int _ _ hh k
theorem nextV_short {r : Option (List UInt8 × Nat)} {n : Int} (h : okP r) : small ((nextV r n).getD []) := by
  unfold small
  rcases r with _ | ⟨l, a⟩
  · simp [nextV]
  · have := h.2
    unfold ok62 at this
    simp only [nextV, nxt]
    split
    · simp; omega
    · simp

theorem szN_hi {k : Int} (h : k < 1 ∨ 4 < k) : szN k = -1 := by simp only [szN]; rw [if_pos h]
theorem szN_in {k : Int} (h : ¬ (k < 1 ∨ 4 < k)) : szN k = k := by simp only [szN]; rw [if_neg h]

theorem ok_reader_Num : OkH Tryd.prog 53 s_Num := by
  refine OkH.mkM (ps := [(67, specB1 fGet)]) (hs := [(68, s_next)]) ⟨ok_octet_Get, trivial⟩ ⟨ok_reader_next, trivial⟩ m_reader_Reader_Num (fun _ => rfl) (fun n hp x k hh hl h => ?_) (fun hp k h => ?_)
  · have g := fun m => nextV_short (n := m) h
    rcases Classical.em (k < 1 ∨ 4 < k) with hk | hk
    · have e := szN_hi hk
      have n1 := s_next_at hh (-1)
      have h' : okP x := h
      by_cases h1 : k < 1
      · have d1 : decide (k < 1) = true := by simp [h1]
        simp only [↓sqP, sqT, d_reader_Reader_Num, false_and, and_false, if_false, ite_true, ite_false, eI, eU, eB, eS, eBs, eL, eA, List.cons_append, List.take_succ_cons, List.drop_succ_cons, buildCells, List.take_zero, List.take_nil, ↓dwp_opsP, ↓dwp_cut, ↓dwp_rsv, cut_some, cut_none, DV.cut, DV.inB, DV.inBL, DObj.cut, ↓dwp_opsS, sepsD, sepB, hdl, Only_set, Only_same, Only_zero, Only_succ, ↓dwp_cond, dvalX, DOp.kind, dops_some, dval, frameFrom, Nat.reduceEqDiff, Nat.reduceAdd, ↓reduceIte, if_true, beq_ft, beq_tf, bne_ft, bne_tf, bne_self_eq_false, dBin, dInt, dStr, dBeq, dUn, dLoad, cellsAt, retV, retL, DR.val, fzT, fzVs, fzV, fz1, DV.immB, List.map_cons, List.map_nil, Option.map_some, Option.map_none, Bool.false_eq_true, forall_const, reduceCtorEq, implies_true, Nat.reduceSub, List.length_cons, List.length_nil, List.getD_cons_zero, List.getD_cons_succ, Int.reduceToNat, IntKind.bits, Int.reducePow, Nat.reducePow, Int.reduceLE, Int.reduceLT, Nat.reduceLeDiff, Nat.reduceLT, dCallP, viewVs, viewV, view1, capVL, capV, viewL, noMemV, noMem, spec0_at, specB1_nil, specB2_nil1, specB2_nil2, specB2_nil3, spec1_at, List.all_cons, List.all_nil, List.getElem?_cons_zero, List.getElem?_cons_succ, List.set_cons_zero, List.set_set, List.set_cons_succ, elemsOf, dAppend, dAppz, dStore, DV.one, alive, freezeAt, List.drop_zero, List.take_length, List.not_mem_nil, List.forall_mem_cons, List.nil_append, fzLL, fzL, bRow, bU, cellsOf, setFrom, DV.isU, beq_self_eq_true, List.length_set, List.length_append, List.length_replicate, gt_iff_lt, ge_iff_le, List.getElem?_nil, Int.reduceBEq, Int.reduceBNe, Int.reduceEq, Int.reduceNe, Int.reduceAdd, Int.reduceSub, Int.reduceMul, Int.reduceNeg, Int.reduceTDiv, Int.reduceTMod, Int.reduceMod, Int.reduceDiv, ne_eq, DV.tup.injEq, DV.int.injEq, DV.bool.injEq, DV.agg.injEq, DV.str.injEq, List.cons.injEq, d1, n1, e, numV, h']
        cases hv : nextV x (-1) <;> simp only [↓sqP, sqT, bsO, false_and, and_false, if_false, ite_true, ite_false, eI, eU, eB, eS, eBs, eL, eA, List.cons_append, List.take_succ_cons, List.drop_succ_cons, buildCells, List.take_zero, List.take_nil, ↓dwp_opsP, ↓dwp_cut, ↓dwp_rsv, cut_some, cut_none, DV.cut, DV.inB, DV.inBL, DObj.cut, ↓dwp_opsS, sepsD, sepB, hdl, Only_set, Only_same, Only_zero, Only_succ, ↓dwp_cond, dvalX, DOp.kind, dops_some, dval, frameFrom, Nat.reduceEqDiff, Nat.reduceAdd, ↓reduceIte, if_true, beq_ft, beq_tf, bne_ft, bne_tf, bne_self_eq_false, dBin, dInt, dStr, dBeq, dUn, dLoad, cellsAt, retV, retL, DR.val, fzT, fzVs, fzV, fz1, DV.immB, List.map_cons, List.map_nil, Option.map_some, Option.map_none, Bool.false_eq_true, forall_const, reduceCtorEq, implies_true, Nat.reduceSub, List.length_cons, List.length_nil, List.getD_cons_zero, List.getD_cons_succ, Int.reduceToNat, IntKind.bits, Int.reducePow, Nat.reducePow, Int.reduceLE, Int.reduceLT, Nat.reduceLeDiff, Nat.reduceLT, dCallP, viewVs, viewV, view1, capVL, capV, viewL, noMemV, noMem, spec0_at, specB1_nil, specB2_nil1, specB2_nil2, specB2_nil3, spec1_at, List.all_cons, List.all_nil, List.getElem?_cons_zero, List.getElem?_cons_succ, List.set_cons_zero, List.set_set, List.set_cons_succ, elemsOf, dAppend, dAppz, dStore, DV.one, alive, freezeAt, List.drop_zero, List.take_length, List.not_mem_nil, List.forall_mem_cons, List.nil_append, fzLL, fzL, bRow, bU, cellsOf, setFrom, DV.isU, beq_self_eq_true, List.length_set, List.length_append, List.length_replicate, gt_iff_lt, ge_iff_le, List.getElem?_nil, Int.reduceBEq, Int.reduceBNe, Int.reduceEq, Int.reduceNe, Int.reduceAdd, Int.reduceSub, Int.reduceMul, Int.reduceNeg, Int.reduceTDiv, Int.reduceTMod, Int.reduceMod, Int.reduceDiv, ne_eq, DV.tup.injEq, DV.int.injEq, DV.bool.injEq, DV.agg.injEq, DV.str.injEq, List.cons.injEq, fGet, Option.getD_some, Option.getD_none] <;> have := g (-1) <;> simp_all
      · have d1 : decide (k < 1) = false := by simp [h1]
        have d2 : decide (4 < k) = true := by simp; omega
        simp only [↓sqP, sqT, d_reader_Reader_Num, false_and, and_false, if_false, ite_true, ite_false, eI, eU, eB, eS, eBs, eL, eA, List.cons_append, List.take_succ_cons, List.drop_succ_cons, buildCells, List.take_zero, List.take_nil, ↓dwp_opsP, ↓dwp_cut, ↓dwp_rsv, cut_some, cut_none, DV.cut, DV.inB, DV.inBL, DObj.cut, ↓dwp_opsS, sepsD, sepB, hdl, Only_set, Only_same, Only_zero, Only_succ, ↓dwp_cond, dvalX, DOp.kind, dops_some, dval, frameFrom, Nat.reduceEqDiff, Nat.reduceAdd, ↓reduceIte, if_true, beq_ft, beq_tf, bne_ft, bne_tf, bne_self_eq_false, dBin, dInt, dStr, dBeq, dUn, dLoad, cellsAt, retV, retL, DR.val, fzT, fzVs, fzV, fz1, DV.immB, List.map_cons, List.map_nil, Option.map_some, Option.map_none, Bool.false_eq_true, forall_const, reduceCtorEq, implies_true, Nat.reduceSub, List.length_cons, List.length_nil, List.getD_cons_zero, List.getD_cons_succ, Int.reduceToNat, IntKind.bits, Int.reducePow, Nat.reducePow, Int.reduceLE, Int.reduceLT, Nat.reduceLeDiff, Nat.reduceLT, dCallP, viewVs, viewV, view1, capVL, capV, viewL, noMemV, noMem, spec0_at, specB1_nil, specB2_nil1, specB2_nil2, specB2_nil3, spec1_at, List.all_cons, List.all_nil, List.getElem?_cons_zero, List.getElem?_cons_succ, List.set_cons_zero, List.set_set, List.set_cons_succ, elemsOf, dAppend, dAppz, dStore, DV.one, alive, freezeAt, List.drop_zero, List.take_length, List.not_mem_nil, List.forall_mem_cons, List.nil_append, fzLL, fzL, bRow, bU, cellsOf, setFrom, DV.isU, beq_self_eq_true, List.length_set, List.length_append, List.length_replicate, gt_iff_lt, ge_iff_le, List.getElem?_nil, Int.reduceBEq, Int.reduceBNe, Int.reduceEq, Int.reduceNe, Int.reduceAdd, Int.reduceSub, Int.reduceMul, Int.reduceNeg, Int.reduceTDiv, Int.reduceTMod, Int.reduceMod, Int.reduceDiv, ne_eq, DV.tup.injEq, DV.int.injEq, DV.bool.injEq, DV.agg.injEq, DV.str.injEq, List.cons.injEq, d1, d2, n1, e, numV, h']
        cases hv : nextV x (-1) <;> simp only [↓sqP, sqT, bsO, false_and, and_false, if_false, ite_true, ite_false, eI, eU, eB, eS, eBs, eL, eA, List.cons_append, List.take_succ_cons, List.drop_succ_cons, buildCells, List.take_zero, List.take_nil, ↓dwp_opsP, ↓dwp_cut, ↓dwp_rsv, cut_some, cut_none, DV.cut, DV.inB, DV.inBL, DObj.cut, ↓dwp_opsS, sepsD, sepB, hdl, Only_set, Only_same, Only_zero, Only_succ, ↓dwp_cond, dvalX, DOp.kind, dops_some, dval, frameFrom, Nat.reduceEqDiff, Nat.reduceAdd, ↓reduceIte, if_true, beq_ft, beq_tf, bne_ft, bne_tf, bne_self_eq_false, dBin, dInt, dStr, dBeq, dUn, dLoad, cellsAt, retV, retL, DR.val, fzT, fzVs, fzV, fz1, DV.immB, List.map_cons, List.map_nil, Option.map_some, Option.map_none, Bool.false_eq_true, forall_const, reduceCtorEq, implies_true, Nat.reduceSub, List.length_cons, List.length_nil, List.getD_cons_zero, List.getD_cons_succ, Int.reduceToNat, IntKind.bits, Int.reducePow, Nat.reducePow, Int.reduceLE, Int.reduceLT, Nat.reduceLeDiff, Nat.reduceLT, dCallP, viewVs, viewV, view1, capVL, capV, viewL, noMemV, noMem, spec0_at, specB1_nil, specB2_nil1, specB2_nil2, specB2_nil3, spec1_at, List.all_cons, List.all_nil, List.getElem?_cons_zero, List.getElem?_cons_succ, List.set_cons_zero, List.set_set, List.set_cons_succ, elemsOf, dAppend, dAppz, dStore, DV.one, alive, freezeAt, List.drop_zero, List.take_length, List.not_mem_nil, List.forall_mem_cons, List.nil_append, fzLL, fzL, bRow, bU, cellsOf, setFrom, DV.isU, beq_self_eq_true, List.length_set, List.length_append, List.length_replicate, gt_iff_lt, ge_iff_le, List.getElem?_nil, Int.reduceBEq, Int.reduceBNe, Int.reduceEq, Int.reduceNe, Int.reduceAdd, Int.reduceSub, Int.reduceMul, Int.reduceNeg, Int.reduceTDiv, Int.reduceTMod, Int.reduceMod, Int.reduceDiv, ne_eq, DV.tup.injEq, DV.int.injEq, DV.bool.injEq, DV.agg.injEq, DV.str.injEq, List.cons.injEq, fGet, Option.getD_some, Option.getD_none] <;> have := g (-1) <;> simp_all
    · have e := szN_in hk
      have n1 := s_next_at hh k
      have h' : okP x := h
      have d1 : decide (k < 1) = false := by simp; omega
      have d2 : decide (4 < k) = false := by simp; omega
      simp only [↓sqP, sqT, d_reader_Reader_Num, false_and, and_false, if_false, ite_true, ite_false, eI, eU, eB, eS, eBs, eL, eA, List.cons_append, List.take_succ_cons, List.drop_succ_cons, buildCells, List.take_zero, List.take_nil, ↓dwp_opsP, ↓dwp_cut, ↓dwp_rsv, cut_some, cut_none, DV.cut, DV.inB, DV.inBL, DObj.cut, ↓dwp_opsS, sepsD, sepB, hdl, Only_set, Only_same, Only_zero, Only_succ, ↓dwp_cond, dvalX, DOp.kind, dops_some, dval, frameFrom, Nat.reduceEqDiff, Nat.reduceAdd, ↓reduceIte, if_true, beq_ft, beq_tf, bne_ft, bne_tf, bne_self_eq_false, dBin, dInt, dStr, dBeq, dUn, dLoad, cellsAt, retV, retL, DR.val, fzT, fzVs, fzV, fz1, DV.immB, List.map_cons, List.map_nil, Option.map_some, Option.map_none, Bool.false_eq_true, forall_const, reduceCtorEq, implies_true, Nat.reduceSub, List.length_cons, List.length_nil, List.getD_cons_zero, List.getD_cons_succ, Int.reduceToNat, IntKind.bits, Int.reducePow, Nat.reducePow, Int.reduceLE, Int.reduceLT, Nat.reduceLeDiff, Nat.reduceLT, dCallP, viewVs, viewV, view1, capVL, capV, viewL, noMemV, noMem, spec0_at, specB1_nil, specB2_nil1, specB2_nil2, specB2_nil3, spec1_at, List.all_cons, List.all_nil, List.getElem?_cons_zero, List.getElem?_cons_succ, List.set_cons_zero, List.set_set, List.set_cons_succ, elemsOf, dAppend, dAppz, dStore, DV.one, alive, freezeAt, List.drop_zero, List.take_length, List.not_mem_nil, List.forall_mem_cons, List.nil_append, fzLL, fzL, bRow, bU, cellsOf, setFrom, DV.isU, beq_self_eq_true, List.length_set, List.length_append, List.length_replicate, gt_iff_lt, ge_iff_le, List.getElem?_nil, Int.reduceBEq, Int.reduceBNe, Int.reduceEq, Int.reduceNe, Int.reduceAdd, Int.reduceSub, Int.reduceMul, Int.reduceNeg, Int.reduceTDiv, Int.reduceTMod, Int.reduceMod, Int.reduceDiv, ne_eq, DV.tup.injEq, DV.int.injEq, DV.bool.injEq, DV.agg.injEq, DV.str.injEq, List.cons.injEq, d1, d2, n1, e, numV, h']
      cases hv : nextV x k <;> simp only [↓sqP, sqT, bsO, false_and, and_false, if_false, ite_true, ite_false, eI, eU, eB, eS, eBs, eL, eA, List.cons_append, List.take_succ_cons, List.drop_succ_cons, buildCells, List.take_zero, List.take_nil, ↓dwp_opsP, ↓dwp_cut, ↓dwp_rsv, cut_some, cut_none, DV.cut, DV.inB, DV.inBL, DObj.cut, ↓dwp_opsS, sepsD, sepB, hdl, Only_set, Only_same, Only_zero, Only_succ, ↓dwp_cond, dvalX, DOp.kind, dops_some, dval, frameFrom, Nat.reduceEqDiff, Nat.reduceAdd, ↓reduceIte, if_true, beq_ft, beq_tf, bne_ft, bne_tf, bne_self_eq_false, dBin, dInt, dStr, dBeq, dUn, dLoad, cellsAt, retV, retL, DR.val, fzT, fzVs, fzV, fz1, DV.immB, List.map_cons, List.map_nil, Option.map_some, Option.map_none, Bool.false_eq_true, forall_const, reduceCtorEq, implies_true, Nat.reduceSub, List.length_cons, List.length_nil, List.getD_cons_zero, List.getD_cons_succ, Int.reduceToNat, IntKind.bits, Int.reducePow, Nat.reducePow, Int.reduceLE, Int.reduceLT, Nat.reduceLeDiff, Nat.reduceLT, dCallP, viewVs, viewV, view1, capVL, capV, viewL, noMemV, noMem, spec0_at, specB1_nil, specB2_nil1, specB2_nil2, specB2_nil3, spec1_at, List.all_cons, List.all_nil, List.getElem?_cons_zero, List.getElem?_cons_succ, List.set_cons_zero, List.set_set, List.set_cons_succ, elemsOf, dAppend, dAppz, dStore, DV.one, alive, freezeAt, List.drop_zero, List.take_length, List.not_mem_nil, List.forall_mem_cons, List.nil_append, fzLL, fzL, bRow, bU, cellsOf, setFrom, DV.isU, beq_self_eq_true, List.length_set, List.length_append, List.length_replicate, gt_iff_lt, ge_iff_le, List.getElem?_nil, Int.reduceBEq, Int.reduceBNe, Int.reduceEq, Int.reduceNe, Int.reduceAdd, Int.reduceSub, Int.reduceMul, Int.reduceNeg, Int.reduceTDiv, Int.reduceTMod, Int.reduceMod, Int.reduceDiv, ne_eq, DV.tup.injEq, DV.int.injEq, DV.bool.injEq, DV.agg.injEq, DV.str.injEq, List.cons.injEq, fGet, Option.getD_some, Option.getD_none] <;> have := g k <;> simp_all
  · rcases Classical.em (k < 1) with h1 | h1
    · have d1 : decide (k < 1) = true := by simp [h1]
      simp only [↓sqP, sqT, d_reader_Reader_Num, false_and, and_false, if_false, ite_true, ite_false, eI, eU, eB, eS, eBs, eL, eA, List.cons_append, List.take_succ_cons, List.drop_succ_cons, buildCells, List.take_zero, List.take_nil, ↓dwp_opsP, ↓dwp_cut, ↓dwp_rsv, cut_some, cut_none, DV.cut, DV.inB, DV.inBL, DObj.cut, ↓dwp_opsS, sepsD, sepB, hdl, Only_set, Only_same, Only_zero, Only_succ, ↓dwp_cond, dvalX, DOp.kind, dops_some, dval, frameFrom, Nat.reduceEqDiff, Nat.reduceAdd, ↓reduceIte, if_true, beq_ft, beq_tf, bne_ft, bne_tf, bne_self_eq_false, dBin, dInt, dStr, dBeq, dUn, dLoad, cellsAt, retV, retL, DR.val, fzT, fzVs, fzV, fz1, DV.immB, List.map_cons, List.map_nil, Option.map_some, Option.map_none, Bool.false_eq_true, forall_const, reduceCtorEq, implies_true, Nat.reduceSub, List.length_cons, List.length_nil, List.getD_cons_zero, List.getD_cons_succ, Int.reduceToNat, IntKind.bits, Int.reducePow, Nat.reducePow, Int.reduceLE, Int.reduceLT, Nat.reduceLeDiff, Nat.reduceLT, IntKind.wrap_u64, IntKind.wrap_i64, IntKind.wrap_u8, dCallP, viewVs, viewV, view1, capVL, capV, viewL, noMemV, noMem, spec0_at, specB1_nil, specB2_nil1, specB2_nil2, specB2_nil3, spec1_at, List.all_cons, List.all_nil, List.getElem?_cons_zero, List.getElem?_cons_succ, List.set_cons_zero, List.set_set, List.set_cons_succ, elemsOf, dAppend, dAppz, dStore, DV.one, alive, freezeAt, List.drop_zero, List.take_length, List.not_mem_nil, List.forall_mem_cons, List.nil_append, fzLL, fzL, bRow, bU, cellsOf, setFrom, DV.isU, beq_self_eq_true, List.length_set, List.length_append, List.length_replicate, gt_iff_lt, ge_iff_le, List.getElem?_nil, Int.reduceBEq, Int.reduceBNe, Int.reduceEq, Int.reduceNe, Int.reduceAdd, Int.reduceSub, Int.reduceMul, Int.reduceNeg, Int.reduceTDiv, Int.reduceTMod, Int.reduceMod, Int.reduceDiv, ne_eq, DV.tup.injEq, DV.int.injEq, DV.bool.injEq, DV.agg.injEq, DV.str.injEq, List.cons.injEq, d1, s_next_nil, fGet]
      simp [getF, small]
    · have d1 : decide (k < 1) = false := by simp [h1]
      rcases Classical.em (4 < k) with h2 | h2
      · have d2 : decide (4 < k) = true := by simp [h2]
        simp only [↓sqP, sqT, d_reader_Reader_Num, false_and, and_false, if_false, ite_true, ite_false, eI, eU, eB, eS, eBs, eL, eA, List.cons_append, List.take_succ_cons, List.drop_succ_cons, buildCells, List.take_zero, List.take_nil, ↓dwp_opsP, ↓dwp_cut, ↓dwp_rsv, cut_some, cut_none, DV.cut, DV.inB, DV.inBL, DObj.cut, ↓dwp_opsS, sepsD, sepB, hdl, Only_set, Only_same, Only_zero, Only_succ, ↓dwp_cond, dvalX, DOp.kind, dops_some, dval, frameFrom, Nat.reduceEqDiff, Nat.reduceAdd, ↓reduceIte, if_true, beq_ft, beq_tf, bne_ft, bne_tf, bne_self_eq_false, dBin, dInt, dStr, dBeq, dUn, dLoad, cellsAt, retV, retL, DR.val, fzT, fzVs, fzV, fz1, DV.immB, List.map_cons, List.map_nil, Option.map_some, Option.map_none, Bool.false_eq_true, forall_const, reduceCtorEq, implies_true, Nat.reduceSub, List.length_cons, List.length_nil, List.getD_cons_zero, List.getD_cons_succ, Int.reduceToNat, IntKind.bits, Int.reducePow, Nat.reducePow, Int.reduceLE, Int.reduceLT, Nat.reduceLeDiff, Nat.reduceLT, IntKind.wrap_u64, IntKind.wrap_i64, IntKind.wrap_u8, dCallP, viewVs, viewV, view1, capVL, capV, viewL, noMemV, noMem, spec0_at, specB1_nil, specB2_nil1, specB2_nil2, specB2_nil3, spec1_at, List.all_cons, List.all_nil, List.getElem?_cons_zero, List.getElem?_cons_succ, List.set_cons_zero, List.set_set, List.set_cons_succ, elemsOf, dAppend, dAppz, dStore, DV.one, alive, freezeAt, List.drop_zero, List.take_length, List.not_mem_nil, List.forall_mem_cons, List.nil_append, fzLL, fzL, bRow, bU, cellsOf, setFrom, DV.isU, beq_self_eq_true, List.length_set, List.length_append, List.length_replicate, gt_iff_lt, ge_iff_le, List.getElem?_nil, Int.reduceBEq, Int.reduceBNe, Int.reduceEq, Int.reduceNe, Int.reduceAdd, Int.reduceSub, Int.reduceMul, Int.reduceNeg, Int.reduceTDiv, Int.reduceTMod, Int.reduceMod, Int.reduceDiv, ne_eq, DV.tup.injEq, DV.int.injEq, DV.bool.injEq, DV.agg.injEq, DV.str.injEq, List.cons.injEq, d1, d2, s_next_nil, fGet]
        simp [getF, small]
      · have d2 : decide (4 < k) = false := by simp [h2]
        simp only [↓sqP, sqT, d_reader_Reader_Num, false_and, and_false, if_false, ite_true, ite_false, eI, eU, eB, eS, eBs, eL, eA, List.cons_append, List.take_succ_cons, List.drop_succ_cons, buildCells, List.take_zero, List.take_nil, ↓dwp_opsP, ↓dwp_cut, ↓dwp_rsv, cut_some, cut_none, DV.cut, DV.inB, DV.inBL, DObj.cut, ↓dwp_opsS, sepsD, sepB, hdl, Only_set, Only_same, Only_zero, Only_succ, ↓dwp_cond, dvalX, DOp.kind, dops_some, dval, frameFrom, Nat.reduceEqDiff, Nat.reduceAdd, ↓reduceIte, if_true, beq_ft, beq_tf, bne_ft, bne_tf, bne_self_eq_false, dBin, dInt, dStr, dBeq, dUn, dLoad, cellsAt, retV, retL, DR.val, fzT, fzVs, fzV, fz1, DV.immB, List.map_cons, List.map_nil, Option.map_some, Option.map_none, Bool.false_eq_true, forall_const, reduceCtorEq, implies_true, Nat.reduceSub, List.length_cons, List.length_nil, List.getD_cons_zero, List.getD_cons_succ, Int.reduceToNat, IntKind.bits, Int.reducePow, Nat.reducePow, Int.reduceLE, Int.reduceLT, Nat.reduceLeDiff, Nat.reduceLT, IntKind.wrap_u64, IntKind.wrap_i64, IntKind.wrap_u8, dCallP, viewVs, viewV, view1, capVL, capV, viewL, noMemV, noMem, spec0_at, specB1_nil, specB2_nil1, specB2_nil2, specB2_nil3, spec1_at, List.all_cons, List.all_nil, List.getElem?_cons_zero, List.getElem?_cons_succ, List.set_cons_zero, List.set_set, List.set_cons_succ, elemsOf, dAppend, dAppz, dStore, DV.one, alive, freezeAt, List.drop_zero, List.take_length, List.not_mem_nil, List.forall_mem_cons, List.nil_append, fzLL, fzL, bRow, bU, cellsOf, setFrom, DV.isU, beq_self_eq_true, List.length_set, List.length_append, List.length_replicate, gt_iff_lt, ge_iff_le, List.getElem?_nil, Int.reduceBEq, Int.reduceBNe, Int.reduceEq, Int.reduceNe, Int.reduceAdd, Int.reduceSub, Int.reduceMul, Int.reduceNeg, Int.reduceTDiv, Int.reduceTMod, Int.reduceMod, Int.reduceDiv, ne_eq, DV.tup.injEq, DV.int.injEq, DV.bool.injEq, DV.agg.injEq, DV.str.injEq, List.cons.injEq, d1, d2, s_next_nil, fGet]
        simp [getF, small]
end Go.Proofs.YtnbmpdhgejppaaaDoor

/- Readers of the program: Int, Text, Part, From. -/
set_option linter.all false
set_option maxRecDepth 20000
namespace Go.Proofs.YtnbmpdhgejppaaaDoor
open Go.Nk

abbrev RS := Option (List UInt8 × Nat)

def rawV (r : RS) (k : Int) : Option (List UInt8) := nextV (nextS r (szN k)) (numV r k)
def rawS (r : RS) (k : Int) : RS := nextS (nextS r (szN k)) (numV r k)
def intV (r : RS) : Int := match rawV r 1 with
  | some b => if bad b then 0 else sgn b
  | none => 0
def intS (r : RS) : RS := match rawV r 1 with
  | some b => if bad b then none else rawS r 1
  | none => none

theorem nextS_none {r : RS} {k : Int} (h : nextV r k = none) : nextS r k = none := by
  rcases r with _ | ⟨l, a⟩
  · rfl
  · simp only [nextV, nextS, nxt] at h ⊢
    split at h
    · cases h
    · rename_i hc; rw [if_neg hc]; rfl
theorem nextS_some {r : RS} {k : Int} {b : List UInt8} (h : nextV r k = some b) : (nextS r k).isSome = true := by
  rcases r with _ | ⟨l, a⟩
  · cases h
  · simp only [nextV, nextS, nxt] at h ⊢
    split at h
    · rename_i hc; rw [if_pos hc]; rfl
    · cases h
theorem rawV_short {r : RS} {k : Int} (h : okP r) : small ((rawV r k).getD []) := nextV_short (nextS_ok _ h)
theorem nextS_neg (r : RS) : nextS r (-1) = none := by
  rcases r with _ | ⟨l, a⟩
  · rfl
  · simp only [nextS, nxt]; rw [if_neg (by omega)]; rfl
noncomputable def s_rInt : List DV → List DObj → Res := specM oP (fun _ : Unit => []) (fun r _ => (okP r, .int .i64 (intV r), intS r)) (fun _ => (False, .undef))
theorem s_rInt_at {hp : List DObj} {n : Nat} {r : RS} (hh : hp[n]? = some (oP r)) : s_rInt [.ptr n 1 0 0] hp = ⟨okP r, .int .i64 (intV r), hp.set n (oP (intS r))⟩ := specM_at oP_inj (injL_unit _) _ _ hh ()
theorem ok_reader_Int : OkH Tryd.prog 54 s_rInt := by
  refine OkH.mkM (ps := [(69, specB1 fBack)]) (hs := [(53, s_Num), (68, s_next), (36, s_Ok)]) ⟨ok_octet_Back, trivial⟩ ⟨ok_reader_Num, ok_reader_next, ok_reader_Ok, trivial⟩ m_reader_Reader_Int (fun _ => rfl) (fun n hp x a hh hl h => ?_) (fun hp a h => h.elim)
  have h1 : okP x := h
  have h2 := nextS_ok (szN 1) h1
  have h3 := nextS_ok (numV x 1) h2
  have n1 := s_Num_at hh 1
  have g1 : (hp.set n (oP (nextS x (szN 1))))[n]? = some (oP (nextS x (szN 1))) := List.getElem?_set_self hl
  have n2 := s_next_at g1 (numV x 1)
  simp only [List.set_set] at n2
  have g2 : (hp.set n (oP (rawS x 1)))[n]? = some (oP (rawS x 1)) := List.getElem?_set_self hl
  have o1 := s_Ok_at g2
  have n3 := s_next_at g2 (-1)
  have e1 : nextV (nextS x (szN 1)) (numV x 1) = rawV x 1 := rfl
  have e2 : nextS (nextS x (szN 1)) (numV x 1) = rawS x 1 := rfl
  rw [e1, e2] at n2
  have h4 : okP (rawS x 1) := h3
  have hs := rawV_short (k := 1) h1
  cases hv : rawV x 1 with
  | none =>
    have : rawS x 1 = none := nextS_none hv
    rw [this] at o1 n2
    simp only [↓sqP, sqT, d_reader_Reader_Int, false_and, and_false, if_false, ite_true, ite_false, eI, eU, eB, eS, eBs, eL, eA, List.cons_append, List.take_succ_cons, List.drop_succ_cons, buildCells, List.take_zero, List.take_nil, ↓dwp_opsP, ↓dwp_cut, ↓dwp_rsv, cut_some, cut_none, DV.cut, DV.inB, DV.inBL, DObj.cut, ↓dwp_opsS, sepsD, sepB, hdl, Only_set, Only_same, Only_zero, Only_succ, ↓dwp_cond, dvalX, DOp.kind, dops_some, dval, frameFrom, Nat.reduceEqDiff, Nat.reduceAdd, ↓reduceIte, if_true, beq_ft, beq_tf, bne_ft, bne_tf, bne_self_eq_false, dBin, dInt, dStr, dBeq, dUn, dLoad, cellsAt, retV, retL, DR.val, fzT, fzVs, fzV, fz1, DV.immB, List.map_cons, List.map_nil, Option.map_some, Option.map_none, Bool.false_eq_true, forall_const, reduceCtorEq, implies_true, Nat.reduceSub, List.length_cons, List.length_nil, List.getD_cons_zero, List.getD_cons_succ, Int.reduceToNat, IntKind.bits, Int.reducePow, Nat.reducePow, Int.reduceLE, Int.reduceLT, Nat.reduceLeDiff, Nat.reduceLT, IntKind.wrap_u64, IntKind.wrap_i64, IntKind.wrap_u8, dCallP, viewVs, viewV, view1, capVL, capV, viewL, noMemV, noMem, spec0_at, specB1_nil, specB2_nil1, specB2_nil2, specB2_nil3, spec1_at, List.all_cons, List.all_nil, List.getElem?_cons_zero, List.getElem?_cons_succ, List.set_cons_zero, List.set_set, List.set_cons_succ, elemsOf, dAppend, dAppz, dStore, DV.one, alive, freezeAt, List.drop_zero, List.take_length, List.not_mem_nil, List.forall_mem_cons, List.nil_append, fzLL, fzL, bRow, bU, cellsOf, setFrom, DV.isU, beq_self_eq_true, List.length_set, List.length_append, List.length_replicate, gt_iff_lt, ge_iff_le, List.getElem?_nil, Int.reduceBEq, Int.reduceBNe, Int.reduceEq, Int.reduceNe, Int.reduceAdd, Int.reduceSub, Int.reduceMul, Int.reduceNeg, Int.reduceTDiv, Int.reduceTMod, Int.reduceMod, Int.reduceDiv, ne_eq, DV.tup.injEq, DV.int.injEq, DV.bool.injEq, DV.agg.injEq, DV.str.injEq, List.cons.injEq, n1, n2, o1, h1, h2, h3, h4, hv, bsO, intV, intS, this, Option.isSome_none]
  | some b =>
    have hq : (rawS x 1).isSome = true := nextS_some hv
    rw [hv] at hs
    have hs' : small b := hs
    cases hb : bad b with
    | true =>
      simp only [↓sqP, sqT, d_reader_Reader_Int, false_and, and_false, if_false, ite_true, ite_false, eI, eU, eB, eS, eBs, eL, eA, List.cons_append, List.take_succ_cons, List.drop_succ_cons, buildCells, List.take_zero, List.take_nil, ↓dwp_opsP, ↓dwp_cut, ↓dwp_rsv, cut_some, cut_none, DV.cut, DV.inB, DV.inBL, DObj.cut, ↓dwp_opsS, sepsD, sepB, hdl, Only_set, Only_same, Only_zero, Only_succ, ↓dwp_cond, dvalX, DOp.kind, dops_some, dval, frameFrom, Nat.reduceEqDiff, Nat.reduceAdd, ↓reduceIte, if_true, beq_ft, beq_tf, bne_ft, bne_tf, bne_self_eq_false, dBin, dInt, dStr, dBeq, dUn, dLoad, cellsAt, retV, retL, DR.val, fzT, fzVs, fzV, fz1, DV.immB, List.map_cons, List.map_nil, Option.map_some, Option.map_none, Bool.false_eq_true, forall_const, reduceCtorEq, implies_true, Nat.reduceSub, List.length_cons, List.length_nil, List.getD_cons_zero, List.getD_cons_succ, Int.reduceToNat, IntKind.bits, Int.reducePow, Nat.reducePow, Int.reduceLE, Int.reduceLT, Nat.reduceLeDiff, Nat.reduceLT, IntKind.wrap_u64, IntKind.wrap_i64, IntKind.wrap_u8, dCallP, viewVs, viewV, view1, capVL, capV, viewL, noMemV, noMem, spec0_at, specB1_nil, specB2_nil1, specB2_nil2, specB2_nil3, spec1_at, List.all_cons, List.all_nil, List.getElem?_cons_zero, List.getElem?_cons_succ, List.set_cons_zero, List.set_set, List.set_cons_succ, elemsOf, dAppend, dAppz, dStore, DV.one, alive, freezeAt, List.drop_zero, List.take_length, List.not_mem_nil, List.forall_mem_cons, List.nil_append, fzLL, fzL, bRow, bU, cellsOf, setFrom, DV.isU, beq_self_eq_true, List.length_set, List.length_append, List.length_replicate, gt_iff_lt, ge_iff_le, List.getElem?_nil, Int.reduceBEq, Int.reduceBNe, Int.reduceEq, Int.reduceNe, Int.reduceAdd, Int.reduceSub, Int.reduceMul, Int.reduceNeg, Int.reduceTDiv, Int.reduceTMod, Int.reduceMod, Int.reduceDiv, ne_eq, DV.tup.injEq, DV.int.injEq, DV.bool.injEq, DV.agg.injEq, DV.str.injEq, List.cons.injEq, n1, n2, n3, o1, h1, h2, h3, h4, hv, bsO, intV, intS, hq, fBack, hb, hs', nextS_neg]
    | false =>
      simp only [↓sqP, sqT, d_reader_Reader_Int, false_and, and_false, if_false, ite_true, ite_false, eI, eU, eB, eS, eBs, eL, eA, List.cons_append, List.take_succ_cons, List.drop_succ_cons, buildCells, List.take_zero, List.take_nil, ↓dwp_opsP, ↓dwp_cut, ↓dwp_rsv, cut_some, cut_none, DV.cut, DV.inB, DV.inBL, DObj.cut, ↓dwp_opsS, sepsD, sepB, hdl, Only_set, Only_same, Only_zero, Only_succ, ↓dwp_cond, dvalX, DOp.kind, dops_some, dval, frameFrom, Nat.reduceEqDiff, Nat.reduceAdd, ↓reduceIte, if_true, beq_ft, beq_tf, bne_ft, bne_tf, bne_self_eq_false, dBin, dInt, dStr, dBeq, dUn, dLoad, cellsAt, retV, retL, DR.val, fzT, fzVs, fzV, fz1, DV.immB, List.map_cons, List.map_nil, Option.map_some, Option.map_none, Bool.false_eq_true, forall_const, reduceCtorEq, implies_true, Nat.reduceSub, List.length_cons, List.length_nil, List.getD_cons_zero, List.getD_cons_succ, Int.reduceToNat, IntKind.bits, Int.reducePow, Nat.reducePow, Int.reduceLE, Int.reduceLT, Nat.reduceLeDiff, Nat.reduceLT, IntKind.wrap_u64, IntKind.wrap_i64, IntKind.wrap_u8, dCallP, viewVs, viewV, view1, capVL, capV, viewL, noMemV, noMem, spec0_at, specB1_nil, specB2_nil1, specB2_nil2, specB2_nil3, spec1_at, List.all_cons, List.all_nil, List.getElem?_cons_zero, List.getElem?_cons_succ, List.set_cons_zero, List.set_set, List.set_cons_succ, elemsOf, dAppend, dAppz, dStore, DV.one, alive, freezeAt, List.drop_zero, List.take_length, List.not_mem_nil, List.forall_mem_cons, List.nil_append, fzLL, fzL, bRow, bU, cellsOf, setFrom, DV.isU, beq_self_eq_true, List.length_set, List.length_append, List.length_replicate, gt_iff_lt, ge_iff_le, List.getElem?_nil, Int.reduceBEq, Int.reduceBNe, Int.reduceEq, Int.reduceNe, Int.reduceAdd, Int.reduceSub, Int.reduceMul, Int.reduceNeg, Int.reduceTDiv, Int.reduceTMod, Int.reduceMod, Int.reduceDiv, ne_eq, DV.tup.injEq, DV.int.injEq, DV.bool.injEq, DV.agg.injEq, DV.str.injEq, List.cons.injEq, n1, n2, n3, o1, h1, h2, h3, h4, hv, bsO, intV, intS, hq, fBack, hb, hs']

noncomputable def s_rFrom : List DV → List DObj → Res := fun a hp => ⟨∃ l, a = [.sl (bsl l)] ∧ l.length ≤ 4294967296, .ptr hp.length 1 0 0, hp ++ [⟨.loc, 3, [a ++ [.bool true, .int .i64 0]]⟩]⟩
theorem s_rFrom_at (l : List UInt8) (hp : List DObj) : s_rFrom [.sl (bsl l)] hp = ⟨l.length ≤ 4294967296, .ptr hp.length 1 0 0, hp ++ [oP (some (l, 0))]⟩ := by
  unfold s_rFrom
  simp only [oP, Res.mk.injEq, and_true]
  refine ⟨propext ⟨?_, fun h => ⟨l, rfl, h⟩⟩, trivial, rfl⟩
  rintro ⟨l', h1, h2⟩
  simp only [List.cons.injEq, DV.sl.injEq, and_true] at h1
  rw [bsl_inj h1]
  exact h2
theorem ok_reader_From : OkH Tryd.prog 33 s_rFrom := by
  refine OkH.mk (ps := [(49, specB1 fClone)]) (hs := []) (n := 1) ⟨ok_slices_Clone_byte_byte, trivial⟩ trivial m_reader_From fun a hp h => ?_
  obtain ⟨l, rfl, hl⟩ := h
  refine ⟨rfl, ?_⟩
  simp only [↓sqP, sqT, d_reader_From, s_rFrom, false_and, and_false, if_false, ite_true, ite_false, eI, eU, eB, eS, eBs, eL, eA, List.cons_append, List.take_succ_cons, List.drop_succ_cons, buildCells, List.take_zero, List.take_nil, ↓dwp_opsP, ↓dwp_cut, ↓dwp_rsv, cut_some, cut_none, DV.cut, DV.inB, DV.inBL, DObj.cut, ↓dwp_opsS, sepsD, sepB, hdl, Only_set, Only_same, Only_zero, Only_succ, ↓dwp_cond, dvalX, DOp.kind, dops_some, dval, frameFrom, Nat.reduceEqDiff, Nat.reduceAdd, ↓reduceIte, if_true, beq_ft, beq_tf, bne_ft, bne_tf, bne_self_eq_false, dBin, dInt, dStr, dBeq, dUn, dLoad, cellsAt, retV, retL, DR.val, fzT, fzVs, fzV, fz1, DV.immB, List.map_cons, List.map_nil, Option.map_some, Option.map_none, Bool.false_eq_true, forall_const, reduceCtorEq, implies_true, Nat.reduceSub, List.length_cons, List.length_nil, List.getD_cons_zero, List.getD_cons_succ, Int.reduceToNat, IntKind.bits, Int.reducePow, Nat.reducePow, Int.reduceLE, Int.reduceLT, Nat.reduceLeDiff, Nat.reduceLT, IntKind.wrap_u64, IntKind.wrap_i64, IntKind.wrap_u8, dCallP, viewVs, viewV, view1, capVL, capV, viewL, noMemV, noMem, spec0_at, specB1_nil, specB2_nil1, specB2_nil2, specB2_nil3, spec1_at, List.all_cons, List.all_nil, List.getElem?_cons_zero, List.getElem?_cons_succ, List.set_cons_zero, List.set_set, List.set_cons_succ, elemsOf, dAppend, dAppz, dStore, DV.one, alive, freezeAt, List.drop_zero, List.take_length, List.not_mem_nil, List.forall_mem_cons, List.nil_append, fzLL, fzL, bRow, bU, cellsOf, setFrom, DV.isU, beq_self_eq_true, List.length_set, List.length_append, List.length_replicate, gt_iff_lt, ge_iff_le, List.getElem?_nil, Int.reduceBEq, Int.reduceBNe, Int.reduceEq, Int.reduceNe, Int.reduceAdd, Int.reduceSub, Int.reduceMul, Int.reduceNeg, Int.reduceTDiv, Int.reduceTMod, Int.reduceMod, Int.reduceDiv, ne_eq, DV.tup.injEq, DV.int.injEq, DV.bool.injEq, DV.agg.injEq, DV.str.injEq, List.cons.injEq, fClone, hl]
end Go.Proofs.YtnbmpdhgejppaaaDoor

/- Readers of the reference. -/
set_option linter.all false
set_option maxRecDepth 20000
namespace Go.Proofs.YtnbmpdhgejppaaaDoor
open Go.Nk

abbrev QS := List UInt8 × Option Nat
def oR : QS → DObj
  | (l, some a) => ⟨.loc, 3, [[.sl (bsl l), .int .i64 a, .bool false]]⟩
  | (l, none) => ⟨.loc, 3, [[.sl (bsl l), .int .i64 0, .bool true]]⟩
theorem oR_inj : InjL oR := by
  rintro ⟨l, a⟩ ⟨l', a'⟩ h
  rcases a with _ | a <;> rcases a' with _ | a' <;> simp [oR] at h
  · rw [bsl_inj h]
  · obtain ⟨h1, h2⟩ := h
    have h3 : a = a' := by omega
    rw [bsl_inj h1, h3]
def okQ (r : QS) : Prop := inR r.1 r.2 ∧ ok62 r.1

def qS (r : QS) (k : Int) : QS := (r.1, (nxt r.1 r.2 k).2)
def qV (r : QS) (k : Int) : Option (List UInt8) := (nxt r.1 r.2 k).1
theorem qS_ok {r : QS} (k : Int) (h : okQ r) : okQ (qS r k) := ⟨nxt_in k h.1, h.2⟩

noncomputable def s_take : List DV → List DObj → Res := specM oR (fun n : Int => [.int .i64 n]) (fun r n => (okQ r, bsO (qV r n), qS r n)) (fun _ => (False, .undef))
theorem s_take_at {hp : List DObj} {n : Nat} {r : QS} (hh : hp[n]? = some (oR r)) (k : Int) : s_take [.ptr n 1 0 0, .int .i64 k] hp = ⟨okQ r, bsO (qV r k), hp.set n (oR (qS r k))⟩ := specM_at oR_inj injL_int _ _ hh k
theorem ok_ref_take : OkH Tryd.prog 71 s_take := by
  refine OkH.mkM (ps := []) (hs := []) trivial trivial m_noriaref03_R_take (fun _ => rfl) (fun n hp x k hh hl h => ?_) (fun hp a h => h.elim)
  obtain ⟨l, s⟩ := x
  rcases s with _ | a
  · have hh' : hp[n]? = some ⟨.loc, 3, [[.sl (bsl l), .int .i64 0, .bool true]]⟩ := hh
    have g1 : (hp.set n ⟨.loc, 3, [[.sl (bsl l), .int .i64 0, .bool true]]⟩)[n]? = some ⟨.loc, 3, [[.sl (bsl l), .int .i64 0, .bool true]]⟩ := List.getElem?_set_self hl
    simp only [↓sqP, sqT, d_noriaref03_R_take, false_and, and_false, if_false, ite_true, ite_false, eI, eU, eB, eS, eBs, eL, eA, List.cons_append, List.take_succ_cons, List.drop_succ_cons, buildCells, List.take_zero, List.take_nil, ↓dwp_opsP, ↓dwp_cut, ↓dwp_rsv, cut_some, cut_none, DV.cut, DV.inB, DV.inBL, DObj.cut, ↓dwp_opsS, sepsD, sepB, hdl, Only_set, Only_same, Only_zero, Only_succ, ↓dwp_cond, dvalX, DOp.kind, dops_some, dval, frameFrom, Nat.reduceEqDiff, Nat.reduceAdd, ↓reduceIte, if_true, beq_ft, beq_tf, bne_ft, bne_tf, bne_self_eq_false, dBin, dInt, dStr, dBeq, dUn, dLoad, cellsAt, retV, retL, DR.val, fzT, fzVs, fzV, fz1, DV.immB, List.map_cons, List.map_nil, Option.map_some, Option.map_none, Bool.false_eq_true, forall_const, reduceCtorEq, implies_true, Nat.reduceSub, List.length_cons, List.length_nil, List.getD_cons_zero, List.getD_cons_succ, Int.reduceToNat, IntKind.bits, Int.reducePow, Nat.reducePow, Int.reduceLE, Int.reduceLT, Nat.reduceLeDiff, Nat.reduceLT, dCallP, viewVs, viewV, view1, capVL, capV, viewL, noMemV, noMem, spec0_at, specB1_nil, specB2_nil1, specB2_nil2, specB2_nil3, spec1_at, List.all_cons, List.all_nil, List.getElem?_cons_zero, List.getElem?_cons_succ, List.set_cons_zero, List.set_set, List.set_cons_succ, elemsOf, dAppend, dAppz, dStore, DV.one, alive, freezeAt, List.drop_zero, List.take_length, List.not_mem_nil, List.forall_mem_cons, List.nil_append, fzLL, fzL, bRow, bU, cellsOf, setFrom, DV.isU, beq_self_eq_true, List.length_set, List.length_append, List.length_replicate, gt_iff_lt, ge_iff_le, List.getElem?_nil, Int.reduceBEq, Int.reduceBNe, Int.reduceEq, Int.reduceNe, Int.reduceAdd, Int.reduceSub, Int.reduceMul, Int.reduceNeg, Int.reduceTDiv, Int.reduceTMod, Int.reduceMod, Int.reduceDiv, ne_eq, DV.tup.injEq, DV.int.injEq, DV.bool.injEq, DV.agg.injEq, DV.str.injEq, List.cons.injEq, hh', g1, qV, qS, nxt, bsO, oR]
  · have hh' : hp[n]? = some ⟨.loc, 3, [[.sl (bsl l), .int .i64 a, .bool false]]⟩ := hh
    obtain ⟨ha, hlen⟩ := h
    simp only [inR] at ha
    unfold ok62 at hlen
    simp only at hlen
    have w1 : IntKind.i64.wrap ((l.length : Int) - (a : Int)) = (l.length : Int) - (a : Int) := wrap_i64_id (by omega)
    have g1 : (hp.set n ⟨.loc, 3, [[.sl (bsl l), .int .i64 a, .bool true]]⟩)[n]? = some ⟨.loc, 3, [[.sl (bsl l), .int .i64 a, .bool true]]⟩ := List.getElem?_set_self hl
    by_cases h0 : k < 0
    · have e1 : nxt l (some a) k = (none, none) := by simp only [nxt]; rw [if_neg (by omega)]
      have d0 : decide (k < 0) = true := by simp [h0]
      simp only [↓sqP, sqT, d_noriaref03_R_take, false_and, and_false, if_false, ite_true, ite_false, eI, eU, eB, eS, eBs, eL, eA, List.cons_append, List.take_succ_cons, List.drop_succ_cons, buildCells, List.take_zero, List.take_nil, ↓dwp_opsP, ↓dwp_cut, ↓dwp_rsv, cut_some, cut_none, DV.cut, DV.inB, DV.inBL, DObj.cut, ↓dwp_opsS, sepsD, sepB, hdl, Only_set, Only_same, Only_zero, Only_succ, ↓dwp_cond, dvalX, DOp.kind, dops_some, dval, frameFrom, Nat.reduceEqDiff, Nat.reduceAdd, ↓reduceIte, if_true, beq_ft, beq_tf, bne_ft, bne_tf, bne_self_eq_false, dBin, dInt, dStr, dBeq, dUn, dLoad, cellsAt, retV, retL, DR.val, fzT, fzVs, fzV, fz1, DV.immB, List.map_cons, List.map_nil, Option.map_some, Option.map_none, Bool.false_eq_true, forall_const, reduceCtorEq, implies_true, Nat.reduceSub, List.length_cons, List.length_nil, List.getD_cons_zero, List.getD_cons_succ, Int.reduceToNat, IntKind.bits, Int.reducePow, Nat.reducePow, Int.reduceLE, Int.reduceLT, Nat.reduceLeDiff, Nat.reduceLT, dCallP, viewVs, viewV, view1, capVL, capV, viewL, noMemV, noMem, spec0_at, specB1_nil, specB2_nil1, specB2_nil2, specB2_nil3, spec1_at, List.all_cons, List.all_nil, List.getElem?_cons_zero, List.getElem?_cons_succ, List.set_cons_zero, List.set_set, List.set_cons_succ, elemsOf, dAppend, dAppz, dStore, DV.one, alive, freezeAt, List.drop_zero, List.take_length, List.not_mem_nil, List.forall_mem_cons, List.nil_append, fzLL, fzL, bRow, bU, cellsOf, setFrom, DV.isU, beq_self_eq_true, List.length_set, List.length_append, List.length_replicate, gt_iff_lt, ge_iff_le, List.getElem?_nil, Int.reduceBEq, Int.reduceBNe, Int.reduceEq, Int.reduceNe, Int.reduceAdd, Int.reduceSub, Int.reduceMul, Int.reduceNeg, Int.reduceTDiv, Int.reduceTMod, Int.reduceMod, Int.reduceDiv, ne_eq, DV.tup.injEq, DV.int.injEq, DV.bool.injEq, DV.agg.injEq, DV.str.injEq, List.cons.injEq, hh', g1, qV, qS, e1, d0, bsO, oR]
    have d0 : decide (k < 0) = false := by simp [h0]
    by_cases h1 : (l.length : Int) - a < k
    · have e1 : nxt l (some a) k = (none, none) := by simp only [nxt]; rw [if_neg (by omega)]
      have d1 : decide ((l.length : Int) - a < k) = true := by simp [h1]
      simp only [↓sqP, sqT, d_noriaref03_R_take, false_and, and_false, if_false, ite_true, ite_false, eI, eU, eB, eS, eBs, eL, eA, List.cons_append, List.take_succ_cons, List.drop_succ_cons, buildCells, List.take_zero, List.take_nil, ↓dwp_opsP, ↓dwp_cut, ↓dwp_rsv, cut_some, cut_none, DV.cut, DV.inB, DV.inBL, DObj.cut, ↓dwp_opsS, sepsD, sepB, hdl, Only_set, Only_same, Only_zero, Only_succ, ↓dwp_cond, dvalX, DOp.kind, dops_some, dval, frameFrom, Nat.reduceEqDiff, Nat.reduceAdd, ↓reduceIte, if_true, beq_ft, beq_tf, bne_ft, bne_tf, bne_self_eq_false, dBin, dInt, dStr, dBeq, dUn, dLoad, cellsAt, retV, retL, DR.val, fzT, fzVs, fzV, fz1, DV.immB, List.map_cons, List.map_nil, Option.map_some, Option.map_none, Bool.false_eq_true, forall_const, reduceCtorEq, implies_true, Nat.reduceSub, List.length_cons, List.length_nil, List.getD_cons_zero, List.getD_cons_succ, Int.reduceToNat, IntKind.bits, Int.reducePow, Nat.reducePow, Int.reduceLE, Int.reduceLT, Nat.reduceLeDiff, Nat.reduceLT, dCallP, viewVs, viewV, view1, capVL, capV, viewL, noMemV, noMem, spec0_at, specB1_nil, specB2_nil1, specB2_nil2, specB2_nil3, spec1_at, List.all_cons, List.all_nil, List.getElem?_cons_zero, List.getElem?_cons_succ, List.set_cons_zero, List.set_set, List.set_cons_succ, elemsOf, dAppend, dAppz, dStore, DV.one, alive, freezeAt, List.drop_zero, List.take_length, List.not_mem_nil, List.forall_mem_cons, List.nil_append, fzLL, fzL, bRow, bU, cellsOf, setFrom, DV.isU, beq_self_eq_true, List.length_set, List.length_append, List.length_replicate, gt_iff_lt, ge_iff_le, List.getElem?_nil, Int.reduceBEq, Int.reduceBNe, Int.reduceEq, Int.reduceNe, Int.reduceAdd, Int.reduceSub, Int.reduceMul, Int.reduceNeg, Int.reduceTDiv, Int.reduceTMod, Int.reduceMod, Int.reduceDiv, ne_eq, DV.tup.injEq, DV.int.injEq, DV.bool.injEq, DV.agg.injEq, DV.str.injEq, List.cons.injEq, hh', g1, qV, qS, e1, d0, d1, w1, bsO, oR]
    · have e1 : nxt l (some a) k = (some ((l.take (a + k.toNat)).drop a), some (a + k.toNat)) := by simp only [nxt]; rw [if_pos (by omega)]
      have d1 : decide ((l.length : Int) - a < k) = false := by simp [h1]
      have w2 : IntKind.i64.wrap ((a : Int) + k) = ((a + k.toNat : Nat) : Int) := by rw [wrap_i64_id (by omega)]; omega
      have w3 : IntKind.i64.wrap (((a + k.toNat : Nat) : Int) - k) = (a : Int) := by rw [wrap_i64_id (by omega)]; omega
      have g2 : (hp.set n ⟨.loc, 3, [[.sl (bsl l), .int .i64 ((a + k.toNat : Nat) : Int), .bool false]]⟩)[n]? = some ⟨.loc, 3, [[.sl (bsl l), .int .i64 ((a + k.toNat : Nat) : Int), .bool false]]⟩ := List.getElem?_set_self hl
      simp only [↓sqP, sqT, d_noriaref03_R_take, false_and, and_false, if_false, ite_true, ite_false, eI, eU, eB, eS, eBs, eL, eA, List.cons_append, List.take_succ_cons, List.drop_succ_cons, buildCells, List.take_zero, List.take_nil, ↓dwp_opsP, ↓dwp_cut, ↓dwp_rsv, cut_some, cut_none, DV.cut, DV.inB, DV.inBL, DObj.cut, ↓dwp_opsS, sepsD, sepB, hdl, Only_set, Only_same, Only_zero, Only_succ, ↓dwp_cond, dvalX, DOp.kind, dops_some, dval, frameFrom, Nat.reduceEqDiff, Nat.reduceAdd, ↓reduceIte, if_true, beq_ft, beq_tf, bne_ft, bne_tf, bne_self_eq_false, dBin, dInt, dStr, dBeq, dUn, dLoad, cellsAt, retV, retL, DR.val, fzT, fzVs, fzV, fz1, DV.immB, List.map_cons, List.map_nil, Option.map_some, Option.map_none, Bool.false_eq_true, forall_const, reduceCtorEq, implies_true, Nat.reduceSub, List.length_cons, List.length_nil, List.getD_cons_zero, List.getD_cons_succ, Int.reduceToNat, IntKind.bits, Int.reducePow, Nat.reducePow, Int.reduceLE, Int.reduceLT, Nat.reduceLeDiff, Nat.reduceLT, dCallP, viewVs, viewV, view1, capVL, capV, viewL, noMemV, noMem, spec0_at, specB1_nil, specB2_nil1, specB2_nil2, specB2_nil3, spec1_at, List.all_cons, List.all_nil, List.getElem?_cons_zero, List.getElem?_cons_succ, List.set_cons_zero, List.set_set, List.set_cons_succ, elemsOf, dAppend, dAppz, dStore, DV.one, alive, freezeAt, List.drop_zero, List.take_length, List.not_mem_nil, List.forall_mem_cons, List.nil_append, fzLL, fzL, bRow, bU, cellsOf, setFrom, DV.isU, beq_self_eq_true, List.length_set, List.length_append, List.length_replicate, gt_iff_lt, ge_iff_le, List.getElem?_nil, Int.reduceBEq, Int.reduceBNe, Int.reduceEq, Int.reduceNe, Int.reduceAdd, Int.reduceSub, Int.reduceMul, Int.reduceNeg, Int.reduceTDiv, Int.reduceTMod, Int.reduceMod, Int.reduceDiv, ne_eq, DV.tup.injEq, DV.int.injEq, DV.bool.injEq, DV.agg.injEq, DV.str.injEq, List.cons.injEq, hh', g2, qV, qS, e1, d0, d1, w1, w2, w3, bsO, oR]
      omega

def qNumV (r : QS) (k : Int) : Int := IntKind.i64.wrap (getF ((qV r (szN k)).getD []))
theorem qV_short {r : QS} {n : Int} (h : okQ r) : small ((qV r n).getD []) := by
  obtain ⟨l, s⟩ := r
  have := h.2
  unfold ok62 at this
  simp only at this
  unfold small
  rcases s with _ | a
  · simp [qV, nxt]
  · simp only [qV, nxt]
    split
    · simp; omega
    · simp
noncomputable def s_qNum : List DV → List DObj → Res := specM oR (fun n : Int => [.int .i64 n]) (fun r n => (okQ r, .int .i64 (qNumV r n), qS r (szN n))) (fun _ => (False, .undef))
theorem s_qNum_at {hp : List DObj} {n : Nat} {r : QS} (hh : hp[n]? = some (oR r)) (k : Int) : s_qNum [.ptr n 1 0 0, .int .i64 k] hp = ⟨okQ r, .int .i64 (qNumV r k), hp.set n (oR (qS r (szN k)))⟩ := specM_at oR_inj injL_int _ _ hh k
theorem ok_ref_rNum : OkH Tryd.prog 55 s_qNum := by
  refine OkH.mkM (ps := [(70, specB1 fGet)]) (hs := [(71, s_take)]) ⟨ok_noriaref01_Get, trivial⟩ ⟨ok_ref_take, trivial⟩ m_noriaref03_R_Num (fun _ => rfl) (fun n hp x k hh hl h => ?_) (fun hp k h => h.elim)
  have g := fun m => qV_short (n := m) h
  have h' : okQ x := h
  rcases Classical.em (k < 1 ∨ 4 < k) with hk | hk
  · have e := szN_hi hk
    have n1 := s_take_at hh (-1)
    by_cases h1 : k < 1
    · have d1 : decide (k < 1) = true := by simp [h1]
      simp only [↓sqP, sqT, d_noriaref03_R_Num, false_and, and_false, if_false, ite_true, ite_false, eI, eU, eB, eS, eBs, eL, eA, List.cons_append, List.take_succ_cons, List.drop_succ_cons, buildCells, List.take_zero, List.take_nil, ↓dwp_opsP, ↓dwp_cut, ↓dwp_rsv, cut_some, cut_none, DV.cut, DV.inB, DV.inBL, DObj.cut, ↓dwp_opsS, sepsD, sepB, hdl, Only_set, Only_same, Only_zero, Only_succ, ↓dwp_cond, dvalX, DOp.kind, dops_some, dval, frameFrom, Nat.reduceEqDiff, Nat.reduceAdd, ↓reduceIte, if_true, beq_ft, beq_tf, bne_ft, bne_tf, bne_self_eq_false, dBin, dInt, dStr, dBeq, dUn, dLoad, cellsAt, retV, retL, DR.val, fzT, fzVs, fzV, fz1, DV.immB, List.map_cons, List.map_nil, Option.map_some, Option.map_none, Bool.false_eq_true, forall_const, reduceCtorEq, implies_true, Nat.reduceSub, List.length_cons, List.length_nil, List.getD_cons_zero, List.getD_cons_succ, Int.reduceToNat, IntKind.bits, Int.reducePow, Nat.reducePow, Int.reduceLE, Int.reduceLT, Nat.reduceLeDiff, Nat.reduceLT, dCallP, viewVs, viewV, view1, capVL, capV, viewL, noMemV, noMem, spec0_at, specB1_nil, specB2_nil1, specB2_nil2, specB2_nil3, spec1_at, List.all_cons, List.all_nil, List.getElem?_cons_zero, List.getElem?_cons_succ, List.set_cons_zero, List.set_set, List.set_cons_succ, elemsOf, dAppend, dAppz, dStore, DV.one, alive, freezeAt, List.drop_zero, List.take_length, List.not_mem_nil, List.forall_mem_cons, List.nil_append, fzLL, fzL, bRow, bU, cellsOf, setFrom, DV.isU, beq_self_eq_true, List.length_set, List.length_append, List.length_replicate, gt_iff_lt, ge_iff_le, List.getElem?_nil, Int.reduceBEq, Int.reduceBNe, Int.reduceEq, Int.reduceNe, Int.reduceAdd, Int.reduceSub, Int.reduceMul, Int.reduceNeg, Int.reduceTDiv, Int.reduceTMod, Int.reduceMod, Int.reduceDiv, ne_eq, DV.tup.injEq, DV.int.injEq, DV.bool.injEq, DV.agg.injEq, DV.str.injEq, List.cons.injEq, d1, n1, e, qNumV, h']
      cases hv : qV x (-1) <;> simp only [↓sqP, sqT, bsO, false_and, and_false, if_false, ite_true, ite_false, eI, eU, eB, eS, eBs, eL, eA, List.cons_append, List.take_succ_cons, List.drop_succ_cons, buildCells, List.take_zero, List.take_nil, ↓dwp_opsP, ↓dwp_cut, ↓dwp_rsv, cut_some, cut_none, DV.cut, DV.inB, DV.inBL, DObj.cut, ↓dwp_opsS, sepsD, sepB, hdl, Only_set, Only_same, Only_zero, Only_succ, ↓dwp_cond, dvalX, DOp.kind, dops_some, dval, frameFrom, Nat.reduceEqDiff, Nat.reduceAdd, ↓reduceIte, if_true, beq_ft, beq_tf, bne_ft, bne_tf, bne_self_eq_false, dBin, dInt, dStr, dBeq, dUn, dLoad, cellsAt, retV, retL, DR.val, fzT, fzVs, fzV, fz1, DV.immB, List.map_cons, List.map_nil, Option.map_some, Option.map_none, Bool.false_eq_true, forall_const, reduceCtorEq, implies_true, Nat.reduceSub, List.length_cons, List.length_nil, List.getD_cons_zero, List.getD_cons_succ, Int.reduceToNat, IntKind.bits, Int.reducePow, Nat.reducePow, Int.reduceLE, Int.reduceLT, Nat.reduceLeDiff, Nat.reduceLT, dCallP, viewVs, viewV, view1, capVL, capV, viewL, noMemV, noMem, spec0_at, specB1_nil, specB2_nil1, specB2_nil2, specB2_nil3, spec1_at, List.all_cons, List.all_nil, List.getElem?_cons_zero, List.getElem?_cons_succ, List.set_cons_zero, List.set_set, List.set_cons_succ, elemsOf, dAppend, dAppz, dStore, DV.one, alive, freezeAt, List.drop_zero, List.take_length, List.not_mem_nil, List.forall_mem_cons, List.nil_append, fzLL, fzL, bRow, bU, cellsOf, setFrom, DV.isU, beq_self_eq_true, List.length_set, List.length_append, List.length_replicate, gt_iff_lt, ge_iff_le, List.getElem?_nil, Int.reduceBEq, Int.reduceBNe, Int.reduceEq, Int.reduceNe, Int.reduceAdd, Int.reduceSub, Int.reduceMul, Int.reduceNeg, Int.reduceTDiv, Int.reduceTMod, Int.reduceMod, Int.reduceDiv, ne_eq, DV.tup.injEq, DV.int.injEq, DV.bool.injEq, DV.agg.injEq, DV.str.injEq, List.cons.injEq, fGet, Option.getD_some, Option.getD_none] <;> have := g (-1) <;> simp_all
    · have d1 : decide (k < 1) = false := by simp [h1]
      have d2 : decide (4 < k) = true := by simp; omega
      simp only [↓sqP, sqT, d_noriaref03_R_Num, false_and, and_false, if_false, ite_true, ite_false, eI, eU, eB, eS, eBs, eL, eA, List.cons_append, List.take_succ_cons, List.drop_succ_cons, buildCells, List.take_zero, List.take_nil, ↓dwp_opsP, ↓dwp_cut, ↓dwp_rsv, cut_some, cut_none, DV.cut, DV.inB, DV.inBL, DObj.cut, ↓dwp_opsS, sepsD, sepB, hdl, Only_set, Only_same, Only_zero, Only_succ, ↓dwp_cond, dvalX, DOp.kind, dops_some, dval, frameFrom, Nat.reduceEqDiff, Nat.reduceAdd, ↓reduceIte, if_true, beq_ft, beq_tf, bne_ft, bne_tf, bne_self_eq_false, dBin, dInt, dStr, dBeq, dUn, dLoad, cellsAt, retV, retL, DR.val, fzT, fzVs, fzV, fz1, DV.immB, List.map_cons, List.map_nil, Option.map_some, Option.map_none, Bool.false_eq_true, forall_const, reduceCtorEq, implies_true, Nat.reduceSub, List.length_cons, List.length_nil, List.getD_cons_zero, List.getD_cons_succ, Int.reduceToNat, IntKind.bits, Int.reducePow, Nat.reducePow, Int.reduceLE, Int.reduceLT, Nat.reduceLeDiff, Nat.reduceLT, dCallP, viewVs, viewV, view1, capVL, capV, viewL, noMemV, noMem, spec0_at, specB1_nil, specB2_nil1, specB2_nil2, specB2_nil3, spec1_at, List.all_cons, List.all_nil, List.getElem?_cons_zero, List.getElem?_cons_succ, List.set_cons_zero, List.set_set, List.set_cons_succ, elemsOf, dAppend, dAppz, dStore, DV.one, alive, freezeAt, List.drop_zero, List.take_length, List.not_mem_nil, List.forall_mem_cons, List.nil_append, fzLL, fzL, bRow, bU, cellsOf, setFrom, DV.isU, beq_self_eq_true, List.length_set, List.length_append, List.length_replicate, gt_iff_lt, ge_iff_le, List.getElem?_nil, Int.reduceBEq, Int.reduceBNe, Int.reduceEq, Int.reduceNe, Int.reduceAdd, Int.reduceSub, Int.reduceMul, Int.reduceNeg, Int.reduceTDiv, Int.reduceTMod, Int.reduceMod, Int.reduceDiv, ne_eq, DV.tup.injEq, DV.int.injEq, DV.bool.injEq, DV.agg.injEq, DV.str.injEq, List.cons.injEq, d1, d2, n1, e, qNumV, h']
      cases hv : qV x (-1) <;> simp only [↓sqP, sqT, bsO, false_and, and_false, if_false, ite_true, ite_false, eI, eU, eB, eS, eBs, eL, eA, List.cons_append, List.take_succ_cons, List.drop_succ_cons, buildCells, List.take_zero, List.take_nil, ↓dwp_opsP, ↓dwp_cut, ↓dwp_rsv, cut_some, cut_none, DV.cut, DV.inB, DV.inBL, DObj.cut, ↓dwp_opsS, sepsD, sepB, hdl, Only_set, Only_same, Only_zero, Only_succ, ↓dwp_cond, dvalX, DOp.kind, dops_some, dval, frameFrom, Nat.reduceEqDiff, Nat.reduceAdd, ↓reduceIte, if_true, beq_ft, beq_tf, bne_ft, bne_tf, bne_self_eq_false, dBin, dInt, dStr, dBeq, dUn, dLoad, cellsAt, retV, retL, DR.val, fzT, fzVs, fzV, fz1, DV.immB, List.map_cons, List.map_nil, Option.map_some, Option.map_none, Bool.false_eq_true, forall_const, reduceCtorEq, implies_true, Nat.reduceSub, List.length_cons, List.length_nil, List.getD_cons_zero, List.getD_cons_succ, Int.reduceToNat, IntKind.bits, Int.reducePow, Nat.reducePow, Int.reduceLE, Int.reduceLT, Nat.reduceLeDiff, Nat.reduceLT, dCallP, viewVs, viewV, view1, capVL, capV, viewL, noMemV, noMem, spec0_at, specB1_nil, specB2_nil1, specB2_nil2, specB2_nil3, spec1_at, List.all_cons, List.all_nil, List.getElem?_cons_zero, List.getElem?_cons_succ, List.set_cons_zero, List.set_set, List.set_cons_succ, elemsOf, dAppend, dAppz, dStore, DV.one, alive, freezeAt, List.drop_zero, List.take_length, List.not_mem_nil, List.forall_mem_cons, List.nil_append, fzLL, fzL, bRow, bU, cellsOf, setFrom, DV.isU, beq_self_eq_true, List.length_set, List.length_append, List.length_replicate, gt_iff_lt, ge_iff_le, List.getElem?_nil, Int.reduceBEq, Int.reduceBNe, Int.reduceEq, Int.reduceNe, Int.reduceAdd, Int.reduceSub, Int.reduceMul, Int.reduceNeg, Int.reduceTDiv, Int.reduceTMod, Int.reduceMod, Int.reduceDiv, ne_eq, DV.tup.injEq, DV.int.injEq, DV.bool.injEq, DV.agg.injEq, DV.str.injEq, List.cons.injEq, fGet, Option.getD_some, Option.getD_none] <;> have := g (-1) <;> simp_all
  · have e := szN_in hk
    have n1 := s_take_at hh k
    have d1 : decide (k < 1) = false := by simp; omega
    have d2 : decide (4 < k) = false := by simp; omega
    simp only [↓sqP, sqT, d_noriaref03_R_Num, false_and, and_false, if_false, ite_true, ite_false, eI, eU, eB, eS, eBs, eL, eA, List.cons_append, List.take_succ_cons, List.drop_succ_cons, buildCells, List.take_zero, List.take_nil, ↓dwp_opsP, ↓dwp_cut, ↓dwp_rsv, cut_some, cut_none, DV.cut, DV.inB, DV.inBL, DObj.cut, ↓dwp_opsS, sepsD, sepB, hdl, Only_set, Only_same, Only_zero, Only_succ, ↓dwp_cond, dvalX, DOp.kind, dops_some, dval, frameFrom, Nat.reduceEqDiff, Nat.reduceAdd, ↓reduceIte, if_true, beq_ft, beq_tf, bne_ft, bne_tf, bne_self_eq_false, dBin, dInt, dStr, dBeq, dUn, dLoad, cellsAt, retV, retL, DR.val, fzT, fzVs, fzV, fz1, DV.immB, List.map_cons, List.map_nil, Option.map_some, Option.map_none, Bool.false_eq_true, forall_const, reduceCtorEq, implies_true, Nat.reduceSub, List.length_cons, List.length_nil, List.getD_cons_zero, List.getD_cons_succ, Int.reduceToNat, IntKind.bits, Int.reducePow, Nat.reducePow, Int.reduceLE, Int.reduceLT, Nat.reduceLeDiff, Nat.reduceLT, dCallP, viewVs, viewV, view1, capVL, capV, viewL, noMemV, noMem, spec0_at, specB1_nil, specB2_nil1, specB2_nil2, specB2_nil3, spec1_at, List.all_cons, List.all_nil, List.getElem?_cons_zero, List.getElem?_cons_succ, List.set_cons_zero, List.set_set, List.set_cons_succ, elemsOf, dAppend, dAppz, dStore, DV.one, alive, freezeAt, List.drop_zero, List.take_length, List.not_mem_nil, List.forall_mem_cons, List.nil_append, fzLL, fzL, bRow, bU, cellsOf, setFrom, DV.isU, beq_self_eq_true, List.length_set, List.length_append, List.length_replicate, gt_iff_lt, ge_iff_le, List.getElem?_nil, Int.reduceBEq, Int.reduceBNe, Int.reduceEq, Int.reduceNe, Int.reduceAdd, Int.reduceSub, Int.reduceMul, Int.reduceNeg, Int.reduceTDiv, Int.reduceTMod, Int.reduceMod, Int.reduceDiv, ne_eq, DV.tup.injEq, DV.int.injEq, DV.bool.injEq, DV.agg.injEq, DV.str.injEq, List.cons.injEq, d1, d2, n1, e, qNumV, h']
    cases hv : qV x k <;> simp only [↓sqP, sqT, bsO, false_and, and_false, if_false, ite_true, ite_false, eI, eU, eB, eS, eBs, eL, eA, List.cons_append, List.take_succ_cons, List.drop_succ_cons, buildCells, List.take_zero, List.take_nil, ↓dwp_opsP, ↓dwp_cut, ↓dwp_rsv, cut_some, cut_none, DV.cut, DV.inB, DV.inBL, DObj.cut, ↓dwp_opsS, sepsD, sepB, hdl, Only_set, Only_same, Only_zero, Only_succ, ↓dwp_cond, dvalX, DOp.kind, dops_some, dval, frameFrom, Nat.reduceEqDiff, Nat.reduceAdd, ↓reduceIte, if_true, beq_ft, beq_tf, bne_ft, bne_tf, bne_self_eq_false, dBin, dInt, dStr, dBeq, dUn, dLoad, cellsAt, retV, retL, DR.val, fzT, fzVs, fzV, fz1, DV.immB, List.map_cons, List.map_nil, Option.map_some, Option.map_none, Bool.false_eq_true, forall_const, reduceCtorEq, implies_true, Nat.reduceSub, List.length_cons, List.length_nil, List.getD_cons_zero, List.getD_cons_succ, Int.reduceToNat, IntKind.bits, Int.reducePow, Nat.reducePow, Int.reduceLE, Int.reduceLT, Nat.reduceLeDiff, Nat.reduceLT, dCallP, viewVs, viewV, view1, capVL, capV, viewL, noMemV, noMem, spec0_at, specB1_nil, specB2_nil1, specB2_nil2, specB2_nil3, spec1_at, List.all_cons, List.all_nil, List.getElem?_cons_zero, List.getElem?_cons_succ, List.set_cons_zero, List.set_set, List.set_cons_succ, elemsOf, dAppend, dAppz, dStore, DV.one, alive, freezeAt, List.drop_zero, List.take_length, List.not_mem_nil, List.forall_mem_cons, List.nil_append, fzLL, fzL, bRow, bU, cellsOf, setFrom, DV.isU, beq_self_eq_true, List.length_set, List.length_append, List.length_replicate, gt_iff_lt, ge_iff_le, List.getElem?_nil, Int.reduceBEq, Int.reduceBNe, Int.reduceEq, Int.reduceNe, Int.reduceAdd, Int.reduceSub, Int.reduceMul, Int.reduceNeg, Int.reduceTDiv, Int.reduceTMod, Int.reduceMod, Int.reduceDiv, ne_eq, DV.tup.injEq, DV.int.injEq, DV.bool.injEq, DV.agg.injEq, DV.str.injEq, List.cons.injEq, fGet, Option.getD_some, Option.getD_none] <;> have := g k <;> simp_all
end Go.Proofs.YtnbmpdhgejppaaaDoor

/- Readers of the reference: Int, Text, Part, From, More. -/
set_option linter.all false
set_option maxRecDepth 20000
namespace Go.Proofs.YtnbmpdhgejppaaaDoor
open Go.Nk

def rqV (r : QS) (k : Int) : Option (List UInt8) := qV (qS r (szN k)) (qNumV r k)
def rqS (r : QS) (k : Int) : QS := qS (qS r (szN k)) (qNumV r k)
theorem rqS_ok {r : QS} (k : Int) (h : okQ r) : okQ (rqS r k) := qS_ok _ (qS_ok _ h)
theorem rqV_short {r : QS} {k : Int} (h : okQ r) : small ((rqV r k).getD []) := qV_short (qS_ok _ h)

theorem oR_none {l : List UInt8} {s : Option Nat} (h : s = none) : oR (l, s) = ⟨.loc, 3, [[.sl (bsl l), .int .i64 0, .bool true]]⟩ := by subst h; rfl
theorem oR_some {l : List UInt8} {s : Option Nat} {a : Nat} (h : s = some a) : oR (l, s) = ⟨.loc, 3, [[.sl (bsl l), .int .i64 a, .bool false]]⟩ := by subst h; rfl

theorem rq_none {l : List UInt8} {s : Option Nat} {k : Int} (hq : (nxt l s (szN k)).2 = none) : rqV (l, s) k = none ∧ rqS (l, s) k = (l, none) := by
  have e : qS (l, s) (szN k) = (l, none) := by unfold qS; exact congrArg (l, ·) hq
  unfold rqV rqS
  rw [e]
  exact ⟨rfl, rfl⟩

def qIntV (r : QS) : Int := match rqV r 1 with
  | some b => if bad b then 0 else sgn b
  | none => 0
def qIntS (r : QS) : QS := match rqV r 1 with
  | some b => if bad b then (r.1, none) else rqS r 1
  | none => (r.1, none)
theorem qIntS_ok {r : QS} (h : okQ r) : okQ (qIntS r) := by
  unfold qIntS
  split
  · split
    · exact ⟨trivial, h.2⟩
    · exact rqS_ok 1 h
  · exact ⟨trivial, h.2⟩
theorem nxt_both {l : List UInt8} {s : Option Nat} {k : Int} : ((nxt l s k).1 = none ∧ (nxt l s k).2 = none) ∨ ∃ b a, (nxt l s k).1 = some b ∧ (nxt l s k).2 = some a := by
  rcases s with _ | a
  · exact .inl ⟨rfl, rfl⟩
  · simp only [nxt]
    split
    · exact .inr ⟨_, _, rfl, rfl⟩
    · exact .inl ⟨rfl, rfl⟩

noncomputable def s_qInt : List DV → List DObj → Res := specM oR (fun _ : Unit => []) (fun r _ => (okQ r, .int .i64 (qIntV r), qIntS r)) (fun _ => (False, .undef))
theorem s_qInt_at {hp : List DObj} {n : Nat} {r : QS} (hh : hp[n]? = some (oR r)) : s_qInt [.ptr n 1 0 0] hp = ⟨okQ r, .int .i64 (qIntV r), hp.set n (oR (qIntS r))⟩ := specM_at oR_inj (injL_unit _) _ _ hh ()
theorem ok_ref_rInt : OkH Tryd.prog 56 s_qInt := by
  refine OkH.mkM (ps := [(72, specB1 fBack)]) (hs := [(55, s_qNum), (71, s_take)]) ⟨ok_noriaref01_Back, trivial⟩ ⟨ok_ref_rNum, ok_ref_take, trivial⟩ m_noriaref03_R_Int (fun _ => rfl) (fun n hp x a hh hl h => ?_) (fun hp a h => h.elim)
  have h1 : okQ x := h
  have h2 := qS_ok (szN 1) h1
  have n1 := s_qNum_at hh 1
  have g1 : (hp.set n (oR (qS x (szN 1))))[n]? = some (oR (qS x (szN 1))) := List.getElem?_set_self hl
  have n2 := s_take_at g1 (qNumV x 1)
  simp only [List.set_set] at n2
  have e1 : qV (qS x (szN 1)) (qNumV x 1) = rqV x 1 := rfl
  have e2 : qS (qS x (szN 1)) (qNumV x 1) = rqS x 1 := rfl
  rw [e1, e2] at n2
  have g2 : (hp.set n (oR (rqS x 1)))[n]? = some (oR (rqS x 1)) := List.getElem?_set_self hl
  have hs := rqV_short (k := 1) h1
  obtain ⟨l, s⟩ := x
  cases hq : (nxt l s (szN 1)).2 with
  | none =>
    have k1 : oR (qS (l, s) (szN 1)) = ⟨.loc, 3, [[.sl (bsl l), .int .i64 0, .bool true]]⟩ := oR_none hq
    have k2 : rqV (l, s) 1 = none := (rq_none hq).1
    have k4 : oR (l, none) = ⟨.loc, 3, [[.sl (bsl l), .int .i64 0, .bool true]]⟩ := rfl
    rw [k1] at n1 g1
    simp only [↓sqP, sqT, d_noriaref03_R_Int, false_and, and_false, if_false, ite_true, ite_false, eI, eU, eB, eS, eBs, eL, eA, List.cons_append, List.take_succ_cons, List.drop_succ_cons, buildCells, List.take_zero, List.take_nil, ↓dwp_opsP, ↓dwp_cut, ↓dwp_rsv, cut_some, cut_none, DV.cut, DV.inB, DV.inBL, DObj.cut, ↓dwp_opsS, sepsD, sepB, hdl, Only_set, Only_same, Only_zero, Only_succ, ↓dwp_cond, dvalX, DOp.kind, dops_some, dval, frameFrom, Nat.reduceEqDiff, Nat.reduceAdd, ↓reduceIte, if_true, beq_ft, beq_tf, bne_ft, bne_tf, bne_self_eq_false, dBin, dInt, dStr, dBeq, dUn, dLoad, cellsAt, retV, retL, DR.val, fzT, fzVs, fzV, fz1, DV.immB, List.map_cons, List.map_nil, Option.map_some, Option.map_none, Bool.false_eq_true, forall_const, reduceCtorEq, implies_true, Nat.reduceSub, List.length_cons, List.length_nil, List.getD_cons_zero, List.getD_cons_succ, Int.reduceToNat, IntKind.bits, Int.reducePow, Nat.reducePow, Int.reduceLE, Int.reduceLT, Nat.reduceLeDiff, Nat.reduceLT, IntKind.wrap_u64, IntKind.wrap_i64, IntKind.wrap_u8, dCallP, viewVs, viewV, view1, capVL, capV, viewL, noMemV, noMem, spec0_at, specB1_nil, specB2_nil1, specB2_nil2, specB2_nil3, spec1_at, List.all_cons, List.all_nil, List.getElem?_cons_zero, List.getElem?_cons_succ, List.set_cons_zero, List.set_set, List.set_cons_succ, elemsOf, dAppend, dAppz, dStore, DV.one, alive, freezeAt, List.drop_zero, List.take_length, List.not_mem_nil, List.forall_mem_cons, List.nil_append, fzLL, fzL, bRow, bU, cellsOf, setFrom, DV.isU, beq_self_eq_true, List.length_set, List.length_append, List.length_replicate, gt_iff_lt, ge_iff_le, List.getElem?_nil, Int.reduceBEq, Int.reduceBNe, Int.reduceEq, Int.reduceNe, Int.reduceAdd, Int.reduceSub, Int.reduceMul, Int.reduceNeg, Int.reduceTDiv, Int.reduceTMod, Int.reduceMod, Int.reduceDiv, ne_eq, DV.tup.injEq, DV.int.injEq, DV.bool.injEq, DV.agg.injEq, DV.str.injEq, List.cons.injEq, n1, h1, g1, qIntV, qIntS, k2, k4]
  | some a =>
    have k1 : oR (qS (l, s) (szN 1)) = ⟨.loc, 3, [[.sl (bsl l), .int .i64 a, .bool false]]⟩ := oR_some hq
    rw [k1] at n1 g1 n2
    rcases nxt_both (l := l) (s := (qS (l, s) (szN 1)).2) (k := qNumV (l, s) 1) with ⟨b1, b2⟩ | ⟨b, a', b1, b2⟩
    · have v1 : rqV (l, s) 1 = none := b1
      have v2 : oR (rqS (l, s) 1) = ⟨.loc, 3, [[.sl (bsl l), .int .i64 0, .bool true]]⟩ := oR_none b2
      have k4 : oR (l, none) = ⟨.loc, 3, [[.sl (bsl l), .int .i64 0, .bool true]]⟩ := rfl
      rw [v2] at n2 g2
      simp only [↓sqP, sqT, d_noriaref03_R_Int, false_and, and_false, if_false, ite_true, ite_false, eI, eU, eB, eS, eBs, eL, eA, List.cons_append, List.take_succ_cons, List.drop_succ_cons, buildCells, List.take_zero, List.take_nil, ↓dwp_opsP, ↓dwp_cut, ↓dwp_rsv, cut_some, cut_none, DV.cut, DV.inB, DV.inBL, DObj.cut, ↓dwp_opsS, sepsD, sepB, hdl, Only_set, Only_same, Only_zero, Only_succ, ↓dwp_cond, dvalX, DOp.kind, dops_some, dval, frameFrom, Nat.reduceEqDiff, Nat.reduceAdd, ↓reduceIte, if_true, beq_ft, beq_tf, bne_ft, bne_tf, bne_self_eq_false, dBin, dInt, dStr, dBeq, dUn, dLoad, cellsAt, retV, retL, DR.val, fzT, fzVs, fzV, fz1, DV.immB, List.map_cons, List.map_nil, Option.map_some, Option.map_none, Bool.false_eq_true, forall_const, reduceCtorEq, implies_true, Nat.reduceSub, List.length_cons, List.length_nil, List.getD_cons_zero, List.getD_cons_succ, Int.reduceToNat, IntKind.bits, Int.reducePow, Nat.reducePow, Int.reduceLE, Int.reduceLT, Nat.reduceLeDiff, Nat.reduceLT, IntKind.wrap_u64, IntKind.wrap_i64, IntKind.wrap_u8, dCallP, viewVs, viewV, view1, capVL, capV, viewL, noMemV, noMem, spec0_at, specB1_nil, specB2_nil1, specB2_nil2, specB2_nil3, spec1_at, List.all_cons, List.all_nil, List.getElem?_cons_zero, List.getElem?_cons_succ, List.set_cons_zero, List.set_set, List.set_cons_succ, elemsOf, dAppend, dAppz, dStore, DV.one, alive, freezeAt, List.drop_zero, List.take_length, List.not_mem_nil, List.forall_mem_cons, List.nil_append, fzLL, fzL, bRow, bU, cellsOf, setFrom, DV.isU, beq_self_eq_true, List.length_set, List.length_append, List.length_replicate, gt_iff_lt, ge_iff_le, List.getElem?_nil, Int.reduceBEq, Int.reduceBNe, Int.reduceEq, Int.reduceNe, Int.reduceAdd, Int.reduceSub, Int.reduceMul, Int.reduceNeg, Int.reduceTDiv, Int.reduceTMod, Int.reduceMod, Int.reduceDiv, ne_eq, DV.tup.injEq, DV.int.injEq, DV.bool.injEq, DV.agg.injEq, DV.str.injEq, List.cons.injEq, n1, n2, h1, h2, g1, g2, qIntV, qIntS, v1, k4, bsO]
    · have v1 : rqV (l, s) 1 = some b := b1
      have v2 : oR (rqS (l, s) 1) = ⟨.loc, 3, [[.sl (bsl l), .int .i64 a', .bool false]]⟩ := oR_some b2
      rw [v2] at n2 g2
      rw [v1] at hs
      have hs' : small b := hs
      have k4 : oR (l, none) = ⟨.loc, 3, [[.sl (bsl l), .int .i64 0, .bool true]]⟩ := rfl
      have g3 : (hp.set n ⟨.loc, 3, [[.sl (bsl l), .int .i64 a', .bool true]]⟩)[n]? = some ⟨.loc, 3, [[.sl (bsl l), .int .i64 a', .bool true]]⟩ := List.getElem?_set_self hl
      cases hb : bad b with
      | true => simp only [↓sqP, sqT, d_noriaref03_R_Int, false_and, and_false, if_false, ite_true, ite_false, eI, eU, eB, eS, eBs, eL, eA, List.cons_append, List.take_succ_cons, List.drop_succ_cons, buildCells, List.take_zero, List.take_nil, ↓dwp_opsP, ↓dwp_cut, ↓dwp_rsv, cut_some, cut_none, DV.cut, DV.inB, DV.inBL, DObj.cut, ↓dwp_opsS, sepsD, sepB, hdl, Only_set, Only_same, Only_zero, Only_succ, ↓dwp_cond, dvalX, DOp.kind, dops_some, dval, frameFrom, Nat.reduceEqDiff, Nat.reduceAdd, ↓reduceIte, if_true, beq_ft, beq_tf, bne_ft, bne_tf, bne_self_eq_false, dBin, dInt, dStr, dBeq, dUn, dLoad, cellsAt, retV, retL, DR.val, fzT, fzVs, fzV, fz1, DV.immB, List.map_cons, List.map_nil, Option.map_some, Option.map_none, Bool.false_eq_true, forall_const, reduceCtorEq, implies_true, Nat.reduceSub, List.length_cons, List.length_nil, List.getD_cons_zero, List.getD_cons_succ, Int.reduceToNat, IntKind.bits, Int.reducePow, Nat.reducePow, Int.reduceLE, Int.reduceLT, Nat.reduceLeDiff, Nat.reduceLT, IntKind.wrap_u64, IntKind.wrap_i64, IntKind.wrap_u8, dCallP, viewVs, viewV, view1, capVL, capV, viewL, noMemV, noMem, spec0_at, specB1_nil, specB2_nil1, specB2_nil2, specB2_nil3, spec1_at, List.all_cons, List.all_nil, List.getElem?_cons_zero, List.getElem?_cons_succ, List.set_cons_zero, List.set_set, List.set_cons_succ, elemsOf, dAppend, dAppz, dStore, DV.one, alive, freezeAt, List.drop_zero, List.take_length, List.not_mem_nil, List.forall_mem_cons, List.nil_append, fzLL, fzL, bRow, bU, cellsOf, setFrom, DV.isU, beq_self_eq_true, List.length_set, List.length_append, List.length_replicate, gt_iff_lt, ge_iff_le, List.getElem?_nil, Int.reduceBEq, Int.reduceBNe, Int.reduceEq, Int.reduceNe, Int.reduceAdd, Int.reduceSub, Int.reduceMul, Int.reduceNeg, Int.reduceTDiv, Int.reduceTMod, Int.reduceMod, Int.reduceDiv, ne_eq, DV.tup.injEq, DV.int.injEq, DV.bool.injEq, DV.agg.injEq, DV.str.injEq, List.cons.injEq, n1, n2, h1, h2, g1, g2, g3, qIntV, qIntS, v1, k4, bsO, fBack, hb, hs']
      | false => simp only [↓sqP, sqT, d_noriaref03_R_Int, false_and, and_false, if_false, ite_true, ite_false, eI, eU, eB, eS, eBs, eL, eA, List.cons_append, List.take_succ_cons, List.drop_succ_cons, buildCells, List.take_zero, List.take_nil, ↓dwp_opsP, ↓dwp_cut, ↓dwp_rsv, cut_some, cut_none, DV.cut, DV.inB, DV.inBL, DObj.cut, ↓dwp_opsS, sepsD, sepB, hdl, Only_set, Only_same, Only_zero, Only_succ, ↓dwp_cond, dvalX, DOp.kind, dops_some, dval, frameFrom, Nat.reduceEqDiff, Nat.reduceAdd, ↓reduceIte, if_true, beq_ft, beq_tf, bne_ft, bne_tf, bne_self_eq_false, dBin, dInt, dStr, dBeq, dUn, dLoad, cellsAt, retV, retL, DR.val, fzT, fzVs, fzV, fz1, DV.immB, List.map_cons, List.map_nil, Option.map_some, Option.map_none, Bool.false_eq_true, forall_const, reduceCtorEq, implies_true, Nat.reduceSub, List.length_cons, List.length_nil, List.getD_cons_zero, List.getD_cons_succ, Int.reduceToNat, IntKind.bits, Int.reducePow, Nat.reducePow, Int.reduceLE, Int.reduceLT, Nat.reduceLeDiff, Nat.reduceLT, IntKind.wrap_u64, IntKind.wrap_i64, IntKind.wrap_u8, dCallP, viewVs, viewV, view1, capVL, capV, viewL, noMemV, noMem, spec0_at, specB1_nil, specB2_nil1, specB2_nil2, specB2_nil3, spec1_at, List.all_cons, List.all_nil, List.getElem?_cons_zero, List.getElem?_cons_succ, List.set_cons_zero, List.set_set, List.set_cons_succ, elemsOf, dAppend, dAppz, dStore, DV.one, alive, freezeAt, List.drop_zero, List.take_length, List.not_mem_nil, List.forall_mem_cons, List.nil_append, fzLL, fzL, bRow, bU, cellsOf, setFrom, DV.isU, beq_self_eq_true, List.length_set, List.length_append, List.length_replicate, gt_iff_lt, ge_iff_le, List.getElem?_nil, Int.reduceBEq, Int.reduceBNe, Int.reduceEq, Int.reduceNe, Int.reduceAdd, Int.reduceSub, Int.reduceMul, Int.reduceNeg, Int.reduceTDiv, Int.reduceTMod, Int.reduceMod, Int.reduceDiv, ne_eq, DV.tup.injEq, DV.int.injEq, DV.bool.injEq, DV.agg.injEq, DV.str.injEq, List.cons.injEq, n1, n2, h1, h2, g1, g2, qIntV, qIntS, v1, v2, bsO, fBack, hb, hs']

def qMore (r : QS) : Bool := match r.2 with
  | some a => decide (a < r.1.length)
  | none => false
noncomputable def s_qMore : List DV → List DObj → Res := specM oR (fun _ : Unit => []) (fun r _ => (True, .bool (qMore r), r)) (fun _ => (False, .undef))
theorem s_qMore_at {hp : List DObj} {n : Nat} {r : QS} (hh : hp[n]? = some (oR r)) : s_qMore [.ptr n 1 0 0] hp = ⟨True, .bool (qMore r), hp⟩ := by
  refine (specM_at oR_inj (injL_unit _) _ _ hh ()).trans ?_
  simp only [set_same hh]
theorem ok_ref_More : OkH Tryd.prog 38 s_qMore := by
  refine OkH.mkM (ps := []) (hs := []) trivial trivial m_noriaref03_R_More (fun _ => rfl) (fun n hp x a hh hl h => ?_) (fun hp a h => h.elim)
  simp only [set_same hh]
  obtain ⟨l, s⟩ := x
  rcases s with _ | b
  · have hh' : hp[n]? = some ⟨.loc, 3, [[.sl (bsl l), .int .i64 0, .bool true]]⟩ := hh
    simp only [↓sqP, sqT, d_noriaref03_R_More, false_and, and_false, if_false, ite_true, ite_false, eI, eU, eB, eS, eBs, eL, eA, List.cons_append, List.take_succ_cons, List.drop_succ_cons, buildCells, List.take_zero, List.take_nil, ↓dwp_opsP, ↓dwp_cut, ↓dwp_rsv, cut_some, cut_none, DV.cut, DV.inB, DV.inBL, DObj.cut, ↓dwp_opsS, sepsD, sepB, hdl, Only_set, Only_same, Only_zero, Only_succ, ↓dwp_cond, dvalX, DOp.kind, dops_some, dval, frameFrom, Nat.reduceEqDiff, Nat.reduceAdd, ↓reduceIte, if_true, beq_ft, beq_tf, bne_ft, bne_tf, bne_self_eq_false, dBin, dInt, dStr, dBeq, dUn, dLoad, cellsAt, retV, retL, DR.val, fzT, fzVs, fzV, fz1, DV.immB, List.map_cons, List.map_nil, Option.map_some, Option.map_none, Bool.false_eq_true, forall_const, reduceCtorEq, implies_true, Nat.reduceSub, List.length_cons, List.length_nil, List.getD_cons_zero, List.getD_cons_succ, Int.reduceToNat, IntKind.bits, Int.reducePow, Nat.reducePow, Int.reduceLE, Int.reduceLT, Nat.reduceLeDiff, Nat.reduceLT, IntKind.wrap_u64, IntKind.wrap_i64, IntKind.wrap_u8, dCallP, viewVs, viewV, view1, capVL, capV, viewL, noMemV, noMem, spec0_at, specB1_nil, specB2_nil1, specB2_nil2, specB2_nil3, spec1_at, List.all_cons, List.all_nil, List.getElem?_cons_zero, List.getElem?_cons_succ, List.set_cons_zero, List.set_set, List.set_cons_succ, elemsOf, dAppend, dAppz, dStore, DV.one, alive, freezeAt, List.drop_zero, List.take_length, List.not_mem_nil, List.forall_mem_cons, List.nil_append, fzLL, fzL, bRow, bU, cellsOf, setFrom, DV.isU, beq_self_eq_true, List.length_set, List.length_append, List.length_replicate, gt_iff_lt, ge_iff_le, List.getElem?_nil, Int.reduceBEq, Int.reduceBNe, Int.reduceEq, Int.reduceNe, Int.reduceAdd, Int.reduceSub, Int.reduceMul, Int.reduceNeg, Int.reduceTDiv, Int.reduceTMod, Int.reduceMod, Int.reduceDiv, ne_eq, DV.tup.injEq, DV.int.injEq, DV.bool.injEq, DV.agg.injEq, DV.str.injEq, List.cons.injEq, hh', qMore]
  · have hh' : hp[n]? = some ⟨.loc, 3, [[.sl (bsl l), .int .i64 b, .bool false]]⟩ := hh
    simp only [↓sqP, sqT, d_noriaref03_R_More, false_and, and_false, if_false, ite_true, ite_false, eI, eU, eB, eS, eBs, eL, eA, List.cons_append, List.take_succ_cons, List.drop_succ_cons, buildCells, List.take_zero, List.take_nil, ↓dwp_opsP, ↓dwp_cut, ↓dwp_rsv, cut_some, cut_none, DV.cut, DV.inB, DV.inBL, DObj.cut, ↓dwp_opsS, sepsD, sepB, hdl, Only_set, Only_same, Only_zero, Only_succ, ↓dwp_cond, dvalX, DOp.kind, dops_some, dval, frameFrom, Nat.reduceEqDiff, Nat.reduceAdd, ↓reduceIte, if_true, beq_ft, beq_tf, bne_ft, bne_tf, bne_self_eq_false, dBin, dInt, dStr, dBeq, dUn, dLoad, cellsAt, retV, retL, DR.val, fzT, fzVs, fzV, fz1, DV.immB, List.map_cons, List.map_nil, Option.map_some, Option.map_none, Bool.false_eq_true, forall_const, reduceCtorEq, implies_true, Nat.reduceSub, List.length_cons, List.length_nil, List.getD_cons_zero, List.getD_cons_succ, Int.reduceToNat, IntKind.bits, Int.reducePow, Nat.reducePow, Int.reduceLE, Int.reduceLT, Nat.reduceLeDiff, Nat.reduceLT, IntKind.wrap_u64, IntKind.wrap_i64, IntKind.wrap_u8, dCallP, viewVs, viewV, view1, capVL, capV, viewL, noMemV, noMem, spec0_at, specB1_nil, specB2_nil1, specB2_nil2, specB2_nil3, spec1_at, List.all_cons, List.all_nil, List.getElem?_cons_zero, List.getElem?_cons_succ, List.set_cons_zero, List.set_set, List.set_cons_succ, elemsOf, dAppend, dAppz, dStore, DV.one, alive, freezeAt, List.drop_zero, List.take_length, List.not_mem_nil, List.forall_mem_cons, List.nil_append, fzLL, fzL, bRow, bU, cellsOf, setFrom, DV.isU, beq_self_eq_true, List.length_set, List.length_append, List.length_replicate, gt_iff_lt, ge_iff_le, List.getElem?_nil, Int.reduceBEq, Int.reduceBNe, Int.reduceEq, Int.reduceNe, Int.reduceAdd, Int.reduceSub, Int.reduceMul, Int.reduceNeg, Int.reduceTDiv, Int.reduceTMod, Int.reduceMod, Int.reduceDiv, ne_eq, DV.tup.injEq, DV.int.injEq, DV.bool.injEq, DV.agg.injEq, DV.str.injEq, List.cons.injEq, hh', qMore]

noncomputable def s_qFrom : List DV → List DObj → Res := fun a hp => ⟨∃ l, a = [.sl (bsl l)], .ptr hp.length 1 0 0, hp ++ [⟨.loc, 3, [a ++ [.int .i64 0, .bool false]]⟩]⟩
theorem s_qFrom_at (l : List UInt8) (hp : List DObj) : s_qFrom [.sl (bsl l)] hp = ⟨True, .ptr hp.length 1 0 0, hp ++ [oR (l, some 0)]⟩ := by
  unfold s_qFrom
  simp only [oR, Res.mk.injEq, and_true]
  exact ⟨eq_true ⟨l, rfl⟩, trivial, rfl⟩
theorem ok_ref_From : OkH Tryd.prog 37 s_qFrom := by
  refine OkH.mk (ps := []) (hs := []) (n := 1) trivial trivial m_noriaref03_From fun a hp h => ?_
  obtain ⟨l, rfl⟩ := h
  refine ⟨rfl, ?_⟩
  simp only [↓sqP, sqT, d_noriaref03_From, s_qFrom, false_and, and_false, if_false, ite_true, ite_false, eI, eU, eB, eS, eBs, eL, eA, List.cons_append, List.take_succ_cons, List.drop_succ_cons, buildCells, List.take_zero, List.take_nil, ↓dwp_opsP, ↓dwp_cut, ↓dwp_rsv, cut_some, cut_none, DV.cut, DV.inB, DV.inBL, DObj.cut, ↓dwp_opsS, sepsD, sepB, hdl, Only_set, Only_same, Only_zero, Only_succ, ↓dwp_cond, dvalX, DOp.kind, dops_some, dval, frameFrom, Nat.reduceEqDiff, Nat.reduceAdd, ↓reduceIte, if_true, beq_ft, beq_tf, bne_ft, bne_tf, bne_self_eq_false, dBin, dInt, dStr, dBeq, dUn, dLoad, cellsAt, retV, retL, DR.val, fzT, fzVs, fzV, fz1, DV.immB, List.map_cons, List.map_nil, Option.map_some, Option.map_none, Bool.false_eq_true, forall_const, reduceCtorEq, implies_true, Nat.reduceSub, List.length_cons, List.length_nil, List.getD_cons_zero, List.getD_cons_succ, Int.reduceToNat, IntKind.bits, Int.reducePow, Nat.reducePow, Int.reduceLE, Int.reduceLT, Nat.reduceLeDiff, Nat.reduceLT, IntKind.wrap_u64, IntKind.wrap_i64, IntKind.wrap_u8, dCallP, viewVs, viewV, view1, capVL, capV, viewL, noMemV, noMem, spec0_at, specB1_nil, specB2_nil1, specB2_nil2, specB2_nil3, spec1_at, List.all_cons, List.all_nil, List.getElem?_cons_zero, List.getElem?_cons_succ, List.set_cons_zero, List.set_set, List.set_cons_succ, elemsOf, dAppend, dAppz, dStore, DV.one, alive, freezeAt, List.drop_zero, List.take_length, List.not_mem_nil, List.forall_mem_cons, List.nil_append, fzLL, fzL, bRow, bU, cellsOf, setFrom, DV.isU, beq_self_eq_true, List.length_set, List.length_append, List.length_replicate, gt_iff_lt, ge_iff_le, List.getElem?_nil, Int.reduceBEq, Int.reduceBNe, Int.reduceEq, Int.reduceNe, Int.reduceAdd, Int.reduceSub, Int.reduceMul, Int.reduceNeg, Int.reduceTDiv, Int.reduceTMod, Int.reduceMod, Int.reduceDiv, ne_eq, DV.tup.injEq, DV.int.injEq, DV.bool.injEq, DV.agg.injEq, DV.str.injEq, List.cons.injEq]
end Go.Proofs.YtnbmpdhgejppaaaDoor

/- ReaderReads at the data level: it answers true. -/
set_option linter.all false
set_option maxRecDepth 20000
namespace Go.Proofs.YtnbmpdhgejppaaaDoor
open Go.Nk

theorem nextV_to (l : List UInt8) (s : Option Nat) (k : Int) : nextV (toP l s) k = qV (l, s) k := by cases s <;> rfl
theorem nextS_to (l : List UInt8) (s : Option Nat) (k : Int) : nextS (toP l s) k = toP l (qS (l, s) k).2 := by cases s <;> rfl
theorem numV_to (l : List UInt8) (s : Option Nat) (k : Int) : numV (toP l s) k = qNumV (l, s) k := by unfold numV qNumV; rw [nextV_to]
theorem rawV_to (l : List UInt8) (s : Option Nat) (k : Int) : rawV (toP l s) k = rqV (l, s) k := by unfold rawV rqV; rw [nextS_to, numV_to, nextV_to]; rfl
theorem rawS_to (l : List UInt8) (s : Option Nat) (k : Int) : rawS (toP l s) k = toP l (rqS (l, s) k).2 := by unfold rawS rqS; rw [nextS_to, numV_to, nextS_to]; rfl
theorem intV_to (l : List UInt8) (s : Option Nat) : intV (toP l s) = qIntV (l, s) := by unfold intV qIntV; rw [rawV_to]; all_goals (cases rqV (l, s) 1 <;> rfl)
theorem intS_to (l : List UInt8) (s : Option Nat) : intS (toP l s) = toP l (qIntS (l, s)).2 := by
  unfold intS qIntS
  rw [rawV_to, rawS_to]
  cases rqV (l, s) 1 with
  | none => rfl
  | some b => cases h : bad b <;> simp only [h, Bool.false_eq_true, if_false, if_true] <;> rfl
structure Piece where
  d : Int
  n : Int
  z : Int
  i : Int
  s : List UInt8
/-! what holds of readers at the law's calls -/
end Go.Proofs.YtnbmpdhgejppaaaDoor

/- The page's example of a reader; ReaderReads of every arguments. -/
set_option linter.all false
set_option maxRecDepth 20000
namespace Go.Proofs.YtnbmpdhgejppaaaDoor
open Go.Nk

end Go.Proofs.YtnbmpdhgejppaaaDoor

