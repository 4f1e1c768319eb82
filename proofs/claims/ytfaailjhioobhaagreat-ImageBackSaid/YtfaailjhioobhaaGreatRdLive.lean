/- Readers: what each function of a reader tells, and makes of it. -/
import Derived.Test.YtfaailjhioobhaaGreatOctBack2
set_option linter.all false
set_option maxRecDepth 20000
namespace Go.Proofs.YtfaailjhioobhaaGreat
open Go.Nk

/-! What reading is. -/
def ok62 (l : List UInt8) : Prop := l.length ≤ 4294967296

/-- So many bytes from a place on; the place behind them. A place that is none: it failed. -/
def nxt (l : List UInt8) : Option Nat → Int → Option (List UInt8) × Option Nat
  | none, _ => (none, none)
  | some a, n => if 0 ≤ n ∧ n ≤ (l.length : Int) - a then (some ((l.take (a + n.toNat)).drop a), some (a + n.toNat)) else (none, none)

def szN (size : Int) : Int := if size < 1 ∨ 4 < size then -1 else size

/-- A place within the bytes. -/
def inR (l : List UInt8) : Option Nat → Prop
  | none => True
  | some a => a ≤ l.length

theorem nxt_in {l : List UInt8} {s : Option Nat} (n : Int) (h : inR l s) : inR l (nxt l s n).2 := by
  cases s with
  | none => exact trivial
  | some a =>
    simp only [nxt]
    split
    · simp only [inR] at h ⊢; omega
    · exact trivial
/-! The reader of the program. -/
def oP : Option (List UInt8 × Nat) → DObj
  | some (l, a) => ⟨.loc, 3, [[.sl (bsl l), .bool true, .int .i64 a]]⟩
  | none => ⟨.loc, 3, [[.nil, .bool false, .int .i64 0]]⟩

theorem oP_inj : InjL oP := by
  intro x y h
  rcases x with _ | ⟨l, a⟩ <;> rcases y with _ | ⟨l', a'⟩ <;> simp [oP] at h
  · rfl
  · obtain ⟨h1, h2⟩ := h
    have h3 : a = a' := by omega
    rw [bsl_inj h1, h3]

def okP : Option (List UInt8 × Nat) → Prop
  | some (l, a) => a ≤ l.length ∧ ok62 l
  | none => True

def toP (l : List UInt8) (s : Option Nat) : Option (List UInt8 × Nat) := s.map fun a => (l, a)
theorem okP_to {l : List UInt8} {s : Option Nat} (h : inR l s) (hl : ok62 l) : okP (toP l s) := by
  cases s with
  | none => exact trivial
  | some a => exact ⟨h, hl⟩

def bsO : Option (List UInt8) → DV
  | some b => .sl (bsl b)
  | none => .nil

/-! fail: of a state at the head of a struct -/
structure HeadO where
  z : Nat
  c0 : DV
  c1 : DV
  r : List DV
def oHead (x : HeadO) : DObj := ⟨.loc, x.z, [x.c0 :: x.c1 :: x.r]⟩
theorem oHead_inj : InjL oHead := by
  rintro ⟨a, b, c, d⟩ ⟨a', b', c', d'⟩ h
  simp [oHead] at h
  obtain ⟨rfl, rfl, rfl, rfl⟩ := h
  rfl
noncomputable def s_fail : List DV → List DObj → Res := specM oHead (fun _ : Unit => []) (fun x _ => (True, .tup [], ⟨x.z, .nil, .bool false, x.r⟩)) (fun _ => (False, .undef))
theorem ok_reader_fail : OkH Tryz.prog 58 s_fail := by
  refine OkH.mkM (ps := []) (hs := []) trivial trivial m_reader_state_fail (fun _ => rfl) (fun n hp x a hh hl h => ?_) (fun hp a h => h.elim)
  have hh' : hp[n]? = some ⟨.loc, x.z, [x.c0 :: x.c1 :: x.r]⟩ := hh
  simp only [↓sqP, sqT, d_reader_state_fail, dvalX, dval, frameFrom, Nat.reduceEqDiff, Nat.reduceAdd, ↓reduceIte, retV, retL, forall_const, reduceCtorEq, List.length_cons, List.length_nil, List.getD_cons_zero, List.set_cons_zero, List.set_set, List.set_cons_succ, dStore, DV.one, alive, List.not_mem_nil, List.forall_mem_cons, cellsOf, setFrom, ne_eq, hh', oHead, List.getElem?_set_self hl, Nat.le_add_left, Nat.succ_le_succ_iff, Nat.zero_le]
theorem s_fail_at {hp : List DObj} {n : Nat} {z : Nat} {c0 c1 : DV} {r : List DV} (hh : hp[n]? = some ⟨.loc, z, [c0 :: c1 :: r]⟩) : s_fail [.ptr n 1 0 0] hp = ⟨True, .tup [], hp.set n ⟨.loc, z, [.nil :: .bool false :: r]⟩⟩ :=
  specM_at (r := ⟨z, c0, c1, r⟩) oHead_inj (injL_unit _) _ _ hh ()

/-! Ok, At, More -/
noncomputable def s_Ok : List DV → List DObj → Res := specM oP (fun _ : Unit => []) (fun r _ => (True, .bool r.isSome, r)) (fun _ => (True, .bool false))
theorem s_Ok_at {hp : List DObj} {n : Nat} {r : Option (List UInt8 × Nat)} (hh : hp[n]? = some (oP r)) : s_Ok [.ptr n 1 0 0] hp = ⟨True, .bool r.isSome, hp⟩ := by
  refine (specM_at oP_inj (injL_unit _) _ _ hh ()).trans ?_
  simp only [set_same hh]
theorem s_Ok_nil (hp : List DObj) : s_Ok [.nilp] hp = ⟨True, .bool false, hp⟩ := specM_nil (injL_unit _) _ _ hp ()
theorem ok_reader_Ok : OkH Tryz.prog 78 s_Ok := by
  refine OkH.mkM (ps := []) (hs := []) trivial trivial m_reader_Reader_Ok (fun _ => rfl) (fun n hp x a hh hl h => ?_) (fun hp a h => ?_)
  · simp only [set_same hh]
    rcases x with _ | ⟨l, b⟩
    · have hh' : hp[n]? = some ⟨.loc, 3, [[.nil, .bool false, .int .i64 0]]⟩ := hh
      simp only [↓sqP, sqT, d_reader_Reader_Ok, List.drop_succ_cons, dvalX, dops_some, dval, frameFrom, Nat.reduceEqDiff, Nat.reduceAdd, ↓reduceIte, dLoad, cellsAt, retV, DR.val, reduceCtorEq, List.length_cons, List.length_nil, List.getD_cons_zero, Nat.reduceLT, alive, List.drop_zero, ne_eq, hh', Option.isSome_none]
    · have hh' : hp[n]? = some ⟨.loc, 3, [[.sl (bsl l), .bool true, .int .i64 b]]⟩ := hh
      simp only [↓sqP, sqT, d_reader_Reader_Ok, List.drop_succ_cons, dvalX, dops_some, dval, frameFrom, Nat.reduceEqDiff, Nat.reduceAdd, ↓reduceIte, dLoad, cellsAt, retV, DR.val, reduceCtorEq, List.length_cons, List.length_nil, List.getD_cons_zero, Nat.reduceLT, alive, List.drop_zero, ne_eq, hh', Option.isSome_some]
  · simp only [↓sqP, sqT, d_reader_Reader_Ok, dvalX, dops_some, dval, frameFrom, Nat.reduceEqDiff, ↓reduceIte, retV, DR.val, Bool.false_eq_true, reduceCtorEq, dPeq]
end Go.Proofs.YtfaailjhioobhaaGreat

/- Readers of the program: At, More, next, and what is read by it. -/
set_option linter.all false
set_option maxRecDepth 20000
namespace Go.Proofs.YtfaailjhioobhaaGreat
open Go.Nk

theorem slice_three {hp : List DObj} {l : List UInt8} {k k' k'' : IntKind} {a b c : Int} : dSlice hp 1 (.sl (bsl l)) (some (.int k a)) (some (.int k' b)) (some (.int k'' c)) = (0 ≤ a ∧ a ≤ b ∧ b ≤ c ∧ c ≤ l.length, .sl (bsl ((l.take b.toNat).drop a.toNat))) := by
  simp only [dSlice, dBound, bsl_length, Option.isSome_some, Prod.mk.injEq]
  refine ⟨propext ⟨fun h => ⟨h.2.2.2.2.2.1, h.2.2.2.2.2.2.1, h.2.2.2.2.2.2.2.1, h.2.2.2.2.2.2.2.2⟩, fun h => ⟨bsl_rows, trivial, trivial, trivial, by simp, h.1, h.2.1, h.2.2.1, h.2.2.2⟩⟩, ?_⟩
  rw [bsl_take, bsl_drop]

/-! At -/
def moreO : Option (List UInt8 × Nat) → Bool
  | some (l, a) => decide (a < l.length)
  | none => false
noncomputable def s_More : List DV → List DObj → Res := specM oP (fun _ : Unit => []) (fun r _ => (True, .bool (moreO r), r)) (fun _ => (True, .bool false))
theorem s_More_at {hp : List DObj} {n : Nat} {r : Option (List UInt8 × Nat)} (hh : hp[n]? = some (oP r)) : s_More [.ptr n 1 0 0] hp = ⟨True, .bool (moreO r), hp⟩ := by
  refine (specM_at oP_inj (injL_unit _) _ _ hh ()).trans ?_
  simp only [set_same hh]
theorem ok_reader_More : OkH Tryz.prog 79 s_More := by
  refine OkH.mkM (ps := []) (hs := [(78, s_Ok)]) trivial ⟨ok_reader_Ok, trivial⟩ m_reader_Reader_More (fun _ => rfl) (fun n hp x a hh hl h => ?_) (fun hp a h => ?_)
  · simp only [set_same hh]
    have o1 := s_Ok_at hh
    rcases x with _ | ⟨l, b⟩
    · simp only [↓sqP, sqT, d_reader_Reader_More, dvalX, dops_some, dval, frameFrom, Nat.reduceEqDiff, ↓reduceIte, retV, DR.val, List.map_cons, List.map_nil, Bool.false_eq_true, reduceCtorEq, o1, Option.isSome_none, moreO]
    · have hh' : hp[n]? = some ⟨.loc, 3, [[.sl (bsl l), .bool true, .int .i64 b]]⟩ := hh
      simp only [↓sqP, sqT, d_reader_Reader_More, List.drop_succ_cons, dvalX, dops_some, dval, frameFrom, Nat.reduceEqDiff, Nat.reduceAdd, ↓reduceIte, dBin, dInt, dLoad, cellsAt, retV, DR.val, List.map_cons, List.map_nil, reduceCtorEq, List.length_cons, List.length_nil, List.getD_cons_zero, Nat.reduceLT, alive, List.drop_zero, ne_eq, o1, Option.isSome_some, hh', moreO]
  · simp only [↓sqP, sqT, d_reader_Reader_More, dvalX, dops_some, dval, frameFrom, Nat.reduceEqDiff, ↓reduceIte, retV, DR.val, List.map_cons, List.map_nil, Bool.false_eq_true, reduceCtorEq, s_Ok_nil]

/-! next -/
def nextV (r : Option (List UInt8 × Nat)) (n : Int) : Option (List UInt8) := match r with
  | some (l, a) => (nxt l (some a) n).1
  | none => none
def nextS (r : Option (List UInt8 × Nat)) (n : Int) : Option (List UInt8 × Nat) := match r with
  | some (l, a) => toP l (nxt l (some a) n).2
  | none => none
noncomputable def s_next : List DV → List DObj → Res := specM oP (fun n : Int => [.int .i64 n]) (fun r n => (okP r, bsO (nextV r n), nextS r n)) (fun _ => (True, .nil))
theorem s_next_at {hp : List DObj} {n : Nat} {r : Option (List UInt8 × Nat)} (hh : hp[n]? = some (oP r)) (k : Int) : s_next [.ptr n 1 0 0, .int .i64 k] hp = ⟨okP r, bsO (nextV r k), hp.set n (oP (nextS r k))⟩ :=
  specM_at oP_inj injL_int _ _ hh k
theorem s_next_nil (hp : List DObj) (k : Int) : s_next [.nilp, .int .i64 k] hp = ⟨True, .nil, hp⟩ := specM_nil injL_int _ _ hp k

theorem nextS_ok {r : Option (List UInt8 × Nat)} (n : Int) (h : okP r) : okP (nextS r n) := by
  rcases r with _ | ⟨l, a⟩
  · exact trivial
  · exact okP_to (nxt_in (s := some a) n h.1) h.2

theorem ok_reader_next : OkH Tryz.prog 116 s_next := by
  refine OkH.mkM (ps := []) (hs := [(78, s_Ok), (58, s_fail)]) trivial ⟨ok_reader_Ok, ok_reader_fail, trivial⟩ m_reader_Reader_next (fun _ => rfl) (fun n hp x k hh hl h => ?_) (fun hp a h => ?_)
  · have o1 := s_Ok_at hh
    rcases x with _ | ⟨l, a⟩
    · have e : hp.set n (oP (nextS none k)) = hp := set_same hh
      simp only [↓sqP, sqT, d_reader_Reader_next, ↓dwp_cond, dvalX, dval, frameFrom, ↓reduceIte, dUn, retV, DR.val, List.map_cons, List.map_nil, reduceCtorEq, o1, Option.isSome_none, nextV, bsO, e]
    · have hh' : hp[n]? = some ⟨.loc, 3, [[.sl (bsl l), .bool true, .int .i64 a]]⟩ := hh
      obtain ⟨ha, hlen⟩ := h
      unfold ok62 at hlen
      have w1 : IntKind.i64.wrap ((l.length : Int) - (a : Int)) = (l.length : Int) - (a : Int) := wrap_i64_id (by omega)
      have f1 := s_fail_at hh'
      have g1 : (hp.set n ⟨.loc, 3, [[.nil, .bool false, .int .i64 a]]⟩)[n]? = some ⟨.loc, 3, [[.nil, .bool false, .int .i64 a]]⟩ := List.getElem?_set_self hl
      by_cases h0 : k < 0
      · have e1 : nxt l (some a) k = (none, none) := by simp only [nxt]; rw [if_neg (by omega)]
        have d0 : decide (k < 0) = true := by simp [h0]
        simp only [↓sqP, sqT, d_reader_Reader_next, ↓dwp_cond, dvalX, dops_some, dval, frameFrom, Nat.reduceEqDiff, Nat.reduceAdd, ↓reduceIte, dBin, dInt, dUn, retV, DR.val, List.map_cons, List.map_nil, Option.map_none, Bool.false_eq_true, forall_const, reduceCtorEq, List.length_cons, List.length_nil, List.getD_cons_zero, Nat.reduceLeDiff, List.set_cons_zero, List.set_set, List.set_cons_succ, dStore, DV.one, alive, List.not_mem_nil, List.forall_mem_cons, cellsOf, setFrom, ne_eq, o1, Option.isSome_some, d0, f1, g1, hh', nextV, nextS, e1, bsO, toP, oP]
      have d0 : decide (k < 0) = false := by simp [h0]
      by_cases h1 : (l.length : Int) - a < k
      · have e1 : nxt l (some a) k = (none, none) := by simp only [nxt]; rw [if_neg (by omega)]
        have d1 : decide ((l.length : Int) - a < k) = true := by simp [h1]
        simp only [↓sqP, sqT, d_reader_Reader_next, List.drop_succ_cons, ↓dwp_cond, dvalX, dops_some, dval, frameFrom, Nat.reduceEqDiff, Nat.reduceAdd, ↓reduceIte, dBin, dInt, dUn, dLoad, cellsAt, retV, DR.val, List.map_cons, List.map_nil, Option.map_none, Bool.false_eq_true, forall_const, reduceCtorEq, List.length_cons, List.length_nil, List.getD_cons_zero, Nat.reduceLeDiff, Nat.reduceLT, List.set_cons_zero, List.set_set, List.set_cons_succ, dStore, DV.one, alive, List.drop_zero, List.not_mem_nil, List.forall_mem_cons, cellsOf, setFrom, gt_iff_lt, ne_eq, o1, Option.isSome_some, d0, d1, w1, f1, g1, hh', nextV, nextS, e1, bsO, toP, oP]
      · have e1 : nxt l (some a) k = (some ((l.take (a + k.toNat)).drop a), some (a + k.toNat)) := by simp only [nxt]; rw [if_pos (by omega)]
        have d1 : decide ((l.length : Int) - a < k) = false := by simp [h1]
        have w2 : IntKind.i64.wrap ((a : Int) + k) = ((a + k.toNat : Nat) : Int) := by rw [wrap_i64_id (by omega)]; omega
        have g2 : (hp.set n ⟨.loc, 3, [[.sl (bsl l), .bool true, .int .i64 ((a + k.toNat : Nat) : Int)]]⟩)[n]? = some ⟨.loc, 3, [[.sl (bsl l), .bool true, .int .i64 ((a + k.toNat : Nat) : Int)]]⟩ := List.getElem?_set_self hl
        simp only [↓sqP, sqT, d_reader_Reader_next, List.drop_succ_cons, ↓dwp_cond, dvalX, dops_some, dval, frameFrom, Nat.reduceEqDiff, Nat.reduceAdd, ↓reduceIte, dBin, dInt, dUn, dLoad, cellsAt, retV, DR.val, List.map_cons, List.map_nil, Option.map_some, Bool.false_eq_true, forall_const, reduceCtorEq, List.length_cons, List.length_nil, List.getD_cons_zero, Nat.reduceLeDiff, Nat.reduceLT, List.set_cons_zero, List.set_cons_succ, dStore, DV.one, alive, List.drop_zero, List.not_mem_nil, List.forall_mem_cons, cellsOf, setFrom, gt_iff_lt, ne_eq, o1, Option.isSome_some, d0, d1, w1, w2, g2, hh', nextV, nextS, e1, bsO, toP, oP, slice_three]
        omega
  · simp only [↓sqP, sqT, d_reader_Reader_next, ↓dwp_cond, dvalX, dval, frameFrom, ↓reduceIte, dUn, retV, DR.val, List.map_cons, List.map_nil, reduceCtorEq, s_Ok_nil]
/-! Num -/
def numV (r : Option (List UInt8 × Nat)) (k : Int) : Int := IntKind.i64.wrap (getF ((nextV r (szN k)).getD []))
noncomputable def s_Num : List DV → List DObj → Res := specM oP (fun n : Int => [.int .i64 n]) (fun r n => (okP r, .int .i64 (numV r n), nextS r (szN n))) (fun _ => (True, .int .i64 0))
theorem s_Num_at {hp : List DObj} {n : Nat} {r : Option (List UInt8 × Nat)} (hh : hp[n]? = some (oP r)) (k : Int) : s_Num [.ptr n 1 0 0, .int .i64 k] hp = ⟨okP r, .int .i64 (numV r k), hp.set n (oP (nextS r (szN k)))⟩ :=
  specM_at oP_inj injL_int _ _ hh k
theorem s_Num_nil (hp : List DObj) (k : Int) : s_Num [.nilp, .int .i64 k] hp = ⟨True, .int .i64 0, hp⟩ := specM_nil injL_int _ _ hp k

theorem nextV_short {r : Option (List UInt8 × Nat)} {n : Int} (h : okP r) : small ((nextV r n).getD []) := by
  unfold small
  rcases r with _ | ⟨l, a⟩
  · simp [nextV]
  · have := h.2
    unfold ok62 at this
    simp only [nextV, nxt]
    split
    · simp; omega
    · simp

theorem szN_hi {k : Int} (h : k < 1 ∨ 4 < k) : szN k = -1 := by simp only [szN]; rw [if_pos h]
theorem szN_in {k : Int} (h : ¬ (k < 1 ∨ 4 < k)) : szN k = k := by simp only [szN]; rw [if_neg h]

theorem ok_reader_Num : OkH Tryz.prog 76 s_Num := by
  refine OkH.mkM (ps := [(115, specB1 fGet)]) (hs := [(116, s_next)]) ⟨ok_octet_Get, trivial⟩ ⟨ok_reader_next, trivial⟩ m_reader_Reader_Num (fun _ => rfl) (fun n hp x k hh hl h => ?_) (fun hp k h => ?_)
  · have g := fun m => nextV_short (n := m) h
    rcases Classical.em (k < 1 ∨ 4 < k) with hk | hk
    · have e := szN_hi hk
      have n1 := s_next_at hh (-1)
      have h' : okP x := h
      by_cases h1 : k < 1
      · have d1 : decide (k < 1) = true := by simp [h1]
        simp only [↓sqP, sqT, d_reader_Reader_Num, ↓dwp_cond, dvalX, dops_some, dval, frameFrom, Nat.reduceEqDiff, ↓reduceIte, dBin, dInt, retV, DR.val, fzVs, fzV, fz1, DV.immB, List.map_cons, List.map_nil, reduceCtorEq, dCallP, viewVs, viewV, view1, noMemV, noMem, elemsOf, freezeAt, Int.reduceNeg, d1, n1, e, numV, h']
        cases hv : nextV x (-1) <;> simp only [sqT, bsO, ↓reduceIte, specB1_nil, Int.reduceNeg, fGet, Option.getD_some, Option.getD_none] <;> have := g (-1) <;> simp_all
      · have d1 : decide (k < 1) = false := by simp [h1]
        have d2 : decide (4 < k) = true := by simp; omega
        simp only [↓sqP, sqT, d_reader_Reader_Num, ↓dwp_cond, dvalX, dops_some, dval, frameFrom, Nat.reduceEqDiff, ↓reduceIte, dBin, dInt, retV, DR.val, fzVs, fzV, fz1, DV.immB, List.map_cons, List.map_nil, reduceCtorEq, dCallP, viewVs, viewV, view1, noMemV, noMem, elemsOf, freezeAt, gt_iff_lt, Int.reduceNeg, d1, d2, n1, e, numV, h']
        cases hv : nextV x (-1) <;> simp only [sqT, bsO, ↓reduceIte, specB1_nil, Int.reduceNeg, fGet, Option.getD_some, Option.getD_none] <;> have := g (-1) <;> simp_all
    · have e := szN_in hk
      have n1 := s_next_at hh k
      have h' : okP x := h
      have d1 : decide (k < 1) = false := by simp; omega
      have d2 : decide (4 < k) = false := by simp; omega
      simp only [↓sqP, sqT, d_reader_Reader_Num, ↓dwp_cond, dvalX, dops_some, dval, frameFrom, Nat.reduceEqDiff, ↓reduceIte, dBin, dInt, retV, DR.val, fzVs, fzV, fz1, DV.immB, List.map_cons, List.map_nil, Bool.false_eq_true, reduceCtorEq, dCallP, viewVs, viewV, view1, noMemV, noMem, elemsOf, freezeAt, gt_iff_lt, Int.reduceNeg, d1, d2, n1, e, numV, h']
      cases hv : nextV x k <;> simp only [sqT, bsO, ↓reduceIte, specB1_nil, fGet, Option.getD_some, Option.getD_none] <;> have := g k <;> simp_all
  · rcases Classical.em (k < 1) with h1 | h1
    · have d1 : decide (k < 1) = true := by simp [h1]
      simp only [↓sqP, sqT, d_reader_Reader_Num, ↓dwp_cond, dvalX, dops_some, dval, frameFrom, Nat.reduceEqDiff, ↓reduceIte, dBin, dInt, retV, DR.val, List.map_cons, List.map_nil, reduceCtorEq, IntKind.wrap_i64, dCallP, viewVs, viewV, view1, noMemV, noMem, specB1_nil, Int.reduceNeg, DV.int.injEq, d1, s_next_nil, fGet]
      simp [getF, small]
    · have d1 : decide (k < 1) = false := by simp [h1]
      rcases Classical.em (4 < k) with h2 | h2
      · have d2 : decide (4 < k) = true := by simp [h2]
        simp only [↓sqP, sqT, d_reader_Reader_Num, ↓dwp_cond, dvalX, dops_some, dval, frameFrom, Nat.reduceEqDiff, ↓reduceIte, dBin, dInt, retV, DR.val, List.map_cons, List.map_nil, reduceCtorEq, IntKind.wrap_i64, dCallP, viewVs, viewV, view1, noMemV, noMem, specB1_nil, gt_iff_lt, Int.reduceNeg, DV.int.injEq, d1, d2, s_next_nil, fGet]
        simp [getF, small]
      · have d2 : decide (4 < k) = false := by simp [h2]
        simp only [↓sqP, sqT, d_reader_Reader_Num, ↓dwp_cond, dvalX, dops_some, dval, frameFrom, Nat.reduceEqDiff, ↓reduceIte, dBin, dInt, retV, DR.val, List.map_cons, List.map_nil, Bool.false_eq_true, reduceCtorEq, IntKind.wrap_i64, dCallP, viewVs, viewV, view1, noMemV, noMem, specB1_nil, gt_iff_lt, Int.reduceNeg, DV.int.injEq, d1, d2, s_next_nil, fGet]
        simp [getF, small]
end Go.Proofs.YtfaailjhioobhaaGreat

/- Readers of the program: Int, Text, Part, From. -/
set_option linter.all false
set_option maxRecDepth 20000
namespace Go.Proofs.YtfaailjhioobhaaGreat
open Go.Nk

theorem b2s_pre (b : List UInt8) : ∀ e ∈ bsl b, ∃ n, e = [.int .u8 n] := by
  intro e he
  simp only [bsl, List.mem_map] at he
  obtain ⟨x, _, rfl⟩ := he
  exact ⟨_, rfl⟩

abbrev RS := Option (List UInt8 × Nat)

def rawV (r : RS) (k : Int) : Option (List UInt8) := nextV (nextS r (szN k)) (numV r k)
def rawS (r : RS) (k : Int) : RS := nextS (nextS r (szN k)) (numV r k)
def intV (r : RS) : Int := match rawV r 1 with
  | some b => if bad b then 0 else sgn b
  | none => 0
def intS (r : RS) : RS := match rawV r 1 with
  | some b => if bad b then none else rawS r 1
  | none => none

theorem nextS_none {r : RS} {k : Int} (h : nextV r k = none) : nextS r k = none := by
  rcases r with _ | ⟨l, a⟩
  · rfl
  · simp only [nextV, nextS, nxt] at h ⊢
    split at h
    · cases h
    · rename_i hc; rw [if_neg hc]; rfl
theorem nextS_some {r : RS} {k : Int} {b : List UInt8} (h : nextV r k = some b) : (nextS r k).isSome = true := by
  rcases r with _ | ⟨l, a⟩
  · cases h
  · simp only [nextV, nextS, nxt] at h ⊢
    split at h
    · rename_i hc; rw [if_pos hc]; rfl
    · cases h
theorem rawS_ok {r : RS} (k : Int) (h : okP r) : okP (rawS r k) := nextS_ok _ (nextS_ok _ h)
theorem rawV_short {r : RS} {k : Int} (h : okP r) : small ((rawV r k).getD []) := nextV_short (nextS_ok _ h)
theorem nextS_neg (r : RS) : nextS r (-1) = none := by
  rcases r with _ | ⟨l, a⟩
  · rfl
  · simp only [nextS, nxt]; rw [if_neg (by omega)]; rfl
theorem intS_ok {r : RS} (h : okP r) : okP (intS r) := by
  unfold intS
  split
  · split
    · exact trivial
    · exact rawS_ok 1 h
  · exact trivial

noncomputable def s_rInt : List DV → List DObj → Res := specM oP (fun _ : Unit => []) (fun r _ => (okP r, .int .i64 (intV r), intS r)) (fun _ => (False, .undef))
theorem s_rInt_at {hp : List DObj} {n : Nat} {r : RS} (hh : hp[n]? = some (oP r)) : s_rInt [.ptr n 1 0 0] hp = ⟨okP r, .int .i64 (intV r), hp.set n (oP (intS r))⟩ := specM_at oP_inj (injL_unit _) _ _ hh ()
theorem ok_reader_Int : OkH Tryz.prog 121 s_rInt := by
  refine OkH.mkM (ps := [(134, specB1 fBack)]) (hs := [(76, s_Num), (116, s_next), (78, s_Ok)]) ⟨ok_octet_Back, trivial⟩ ⟨ok_reader_Num, ok_reader_next, ok_reader_Ok, trivial⟩ m_reader_Reader_Int (fun _ => rfl) (fun n hp x a hh hl h => ?_) (fun hp a h => h.elim)
  have h1 : okP x := h
  have h2 := nextS_ok (szN 1) h1
  have h3 := nextS_ok (numV x 1) h2
  have n1 := s_Num_at hh 1
  have g1 : (hp.set n (oP (nextS x (szN 1))))[n]? = some (oP (nextS x (szN 1))) := List.getElem?_set_self hl
  have n2 := s_next_at g1 (numV x 1)
  simp only [List.set_set] at n2
  have g2 : (hp.set n (oP (rawS x 1)))[n]? = some (oP (rawS x 1)) := List.getElem?_set_self hl
  have o1 := s_Ok_at g2
  have n3 := s_next_at g2 (-1)
  have e1 : nextV (nextS x (szN 1)) (numV x 1) = rawV x 1 := rfl
  have e2 : nextS (nextS x (szN 1)) (numV x 1) = rawS x 1 := rfl
  rw [e1, e2] at n2
  have h4 : okP (rawS x 1) := h3
  have hs := rawV_short (k := 1) h1
  cases hv : rawV x 1 with
  | none =>
    have : rawS x 1 = none := nextS_none hv
    rw [this] at o1 n2
    simp only [↓sqP, sqT, d_reader_Reader_Int, ↓dwp_cond, dvalX, dval, frameFrom, Nat.reduceEqDiff, ↓reduceIte, dUn, retV, DR.val, List.map_cons, List.map_nil, reduceCtorEq, Int.reduceNeg, n1, n2, o1, h1, h2, hv, bsO, intV, intS, Option.isSome_none]
  | some b =>
    have hq : (rawS x 1).isSome = true := nextS_some hv
    rw [hv] at hs
    have hs' : small b := hs
    cases hb : bad b with
    | true =>
      simp only [↓sqP, sqT, d_reader_Reader_Int, ↓dwp_cond, dvalX, dval, frameFrom, Nat.reduceEqDiff, Nat.reduceAdd, ↓reduceIte, dUn, retV, DR.val, DV.immB, List.map_cons, List.map_nil, Bool.false_eq_true, reduceCtorEq, List.length_cons, List.length_nil, List.getD_cons_zero, List.getD_cons_succ, Nat.reduceLT, dCallP, viewVs, viewV, view1, noMemV, noMem, List.all_cons, List.all_nil, List.set_set, Int.reduceNeg, n1, n2, n3, o1, h1, h2, h4, hv, bsO, intV, intS, hq, fBack, hb, hs', nextS_neg]
    | false =>
      simp only [↓sqP, sqT, d_reader_Reader_Int, ↓dwp_cond, dvalX, dval, frameFrom, Nat.reduceEqDiff, Nat.reduceAdd, ↓reduceIte, dUn, retV, DR.val, DV.immB, List.map_cons, List.map_nil, Bool.false_eq_true, reduceCtorEq, List.length_cons, List.length_nil, List.getD_cons_zero, List.getD_cons_succ, Nat.reduceLT, dCallP, viewVs, viewV, view1, noMemV, noMem, List.all_cons, List.all_nil, Int.reduceNeg, n1, n2, o1, h1, h2, hv, bsO, intV, intS, hq, fBack, hb, hs']

def textV (r : RS) : List UInt8 := (rawV r 2).getD []
noncomputable def s_rText : List DV → List DObj → Res := specM oP (fun _ : Unit => []) (fun r _ => (okP r, .str (textV r), rawS r 2)) (fun _ => (True, .str []))
theorem s_rText_at {hp : List DObj} {n : Nat} {r : RS} (hh : hp[n]? = some (oP r)) : s_rText [.ptr n 1 0 0] hp = ⟨okP r, .str (textV r), hp.set n (oP (rawS r 2))⟩ := specM_at oP_inj (injL_unit _) _ _ hh ()
theorem ok_reader_Text : OkH Tryz.prog 117 s_rText := by
  refine OkH.mkM (ps := []) (hs := [(76, s_Num), (116, s_next)]) trivial ⟨ok_reader_Num, ok_reader_next, trivial⟩ m_reader_Reader_Text (fun _ => rfl) (fun n hp x a hh hl h => ?_) (fun hp a h => ?_)
  · have h1 : okP x := h
    have h2 := nextS_ok (szN 2) h1
    have n1 := s_Num_at hh 2
    have g1 : (hp.set n (oP (nextS x (szN 2))))[n]? = some (oP (nextS x (szN 2))) := List.getElem?_set_self hl
    have n2 := s_next_at g1 (numV x 2)
    simp only [List.set_set] at n2
    have e1 : nextV (nextS x (szN 2)) (numV x 2) = rawV x 2 := rfl
    have e2 : nextS (nextS x (szN 2)) (numV x 2) = rawS x 2 := rfl
    rw [e1, e2] at n2
    cases hv : rawV x 2 with
    | none => simp only [↓sqP, sqT, d_reader_Reader_Text, dvalX, dval, frameFrom, Nat.reduceEqDiff, ↓reduceIte, retV, DR.val, List.map_cons, List.map_nil, forall_const, reduceCtorEq, elemsOf, List.not_mem_nil, n1, n2, h1, h2, hv, bsO, textV, Option.getD_none]
    | some b =>
      simp only [↓sqP, sqT, d_reader_Reader_Text, dvalX, dval, frameFrom, Nat.reduceEqDiff, ↓reduceIte, retV, DR.val, List.map_cons, List.map_nil, reduceCtorEq, elemsOf, DV.str.injEq, n1, n2, h1, h2, hv, bsO, textV, Option.getD_some]
      refine ⟨b2s_pre b, ?_⟩
      simp [bsl, Function.comp_def]
  · simp only [↓sqP, sqT, d_reader_Reader_Text, dvalX, dval, frameFrom, Nat.reduceEqDiff, ↓reduceIte, retV, DR.val, List.map_cons, List.map_nil, forall_const, reduceCtorEq, elemsOf, List.not_mem_nil, s_Num_nil, s_next_nil]

def partV (r : RS) : List UInt8 := (rawV r 4).getD []
noncomputable def s_rPart : List DV → List DObj → Res := specM oP (fun _ : Unit => []) (fun r _ => (okP r, .sl (bsl (partV r)), rawS r 4)) (fun _ => (False, .undef))
theorem s_rPart_at {hp : List DObj} {n : Nat} {r : RS} (hh : hp[n]? = some (oP r)) : s_rPart [.ptr n 1 0 0] hp = ⟨okP r, .sl (bsl (partV r)), hp.set n (oP (rawS r 4))⟩ := specM_at oP_inj (injL_unit _) _ _ hh ()
theorem nextV_len {r : RS} {n : Int} (h : okP r) : ((nextV r n).getD []).length ≤ 4294967296 := by
  rcases r with _ | ⟨l, a⟩
  · simp [nextV]
  · have := h.2
    unfold ok62 at this
    simp only [nextV, nxt]
    split
    · simp; omega
    · simp
theorem ok_reader_Part : OkH Tryz.prog 77 s_rPart := by
  refine OkH.mkM (ps := [(64, specB1 fClone)]) (hs := [(76, s_Num), (116, s_next)]) ⟨ok_slices_Clone_byte_byte, trivial⟩ ⟨ok_reader_Num, ok_reader_next, trivial⟩ m_reader_Reader_Part (fun _ => rfl) (fun n hp x a hh hl h => ?_) (fun hp a h => h.elim)
  have h1 : okP x := h
  have h2 := nextS_ok (szN 4) h1
  have n1 := s_Num_at hh 4
  have g1 : (hp.set n (oP (nextS x (szN 4))))[n]? = some (oP (nextS x (szN 4))) := List.getElem?_set_self hl
  have n2 := s_next_at g1 (numV x 4)
  simp only [List.set_set] at n2
  have hq := nextV_len (n := numV x 4) h2
  have e1 : nextV (nextS x (szN 4)) (numV x 4) = rawV x 4 := rfl
  have e2 : nextS (nextS x (szN 4)) (numV x 4) = rawS x 4 := rfl
  rw [e1] at hq
  rw [e1, e2] at n2
  cases hv : rawV x 4 with
  | none => simp only [↓sqP, sqT, d_reader_Reader_Part, dvalX, dval, frameFrom, Nat.reduceEqDiff, ↓reduceIte, retV, DR.val, fzVs, fzV, fz1, List.map_cons, List.map_nil, Bool.false_eq_true, reduceCtorEq, List.length_nil, Nat.reduceLeDiff, dCallP, viewVs, viewV, view1, noMemV, noMem, specB1_nil, n1, n2, h1, h2, hv, bsO, partV, Option.getD_none, fClone, bsl]
  | some b =>
    rw [hv] at hq
    have hq' : b.length ≤ 4294967296 := hq
    simp only [↓sqP, sqT, d_reader_Reader_Part, dvalX, dval, frameFrom, Nat.reduceEqDiff, ↓reduceIte, retV, DR.val, fzVs, fzV, fz1, DV.immB, List.map_cons, List.map_nil, Bool.false_eq_true, reduceCtorEq, dCallP, viewVs, viewV, view1, noMemV, noMem, n1, n2, h1, h2, hv, bsO, partV, Option.getD_some, fClone, hq']

/-! From -/
noncomputable def s_rFrom : List DV → List DObj → Res := fun a hp => ⟨∃ l, a = [.sl (bsl l)] ∧ l.length ≤ 4294967296, .ptr hp.length 1 0 0, hp ++ [⟨.loc, 3, [a ++ [.bool true, .int .i64 0]]⟩]⟩
theorem s_rFrom_at (l : List UInt8) (hp : List DObj) : s_rFrom [.sl (bsl l)] hp = ⟨l.length ≤ 4294967296, .ptr hp.length 1 0 0, hp ++ [oP (some (l, 0))]⟩ := by
  unfold s_rFrom
  simp only [oP, Res.mk.injEq]
  refine ⟨propext ⟨?_, fun h => ⟨l, rfl, h⟩⟩, trivial, rfl⟩
  rintro ⟨l', h1, h2⟩
  simp only [List.cons.injEq, DV.sl.injEq, and_true] at h1
  rw [bsl_inj h1]
  exact h2
theorem ok_reader_From : OkH Tryz.prog 75 s_rFrom := by
  refine OkH.mk (ps := [(64, specB1 fClone)]) (hs := []) (n := 1) ⟨ok_slices_Clone_byte_byte, trivial⟩ trivial m_reader_From fun a hp h => ?_
  obtain ⟨l, rfl, hl⟩ := h
  refine ⟨rfl, ?_⟩
  simp only [↓sqP, sqT, d_reader_From, s_rFrom, List.cons_append, buildCells, dvalX, dval, frameFrom, Nat.reduceAdd, ↓reduceIte, retV, DR.val, fzVs, fzV, fz1, DV.immB, List.map_cons, List.map_nil, Bool.false_eq_true, forall_const, reduceCtorEq, List.length_cons, List.length_nil, Nat.reduceLeDiff, dCallP, viewVs, viewV, view1, noMemV, noMem, List.set_cons_zero, List.set_cons_succ, DV.one, List.not_mem_nil, List.forall_mem_cons, List.nil_append, cellsOf, setFrom, DV.isU, List.cons.injEq, fClone, hl]
end Go.Proofs.YtfaailjhioobhaaGreat

/- Readers of the reference. -/
set_option linter.all false
set_option maxRecDepth 20000
namespace Go.Proofs.YtfaailjhioobhaaGreat
open Go.Nk

abbrev QS := List UInt8 × Option Nat
def okQ (r : QS) : Prop := inR r.1 r.2 ∧ ok62 r.1

def qS (r : QS) (k : Int) : QS := (r.1, (nxt r.1 r.2 k).2)
def qV (r : QS) (k : Int) : Option (List UInt8) := (nxt r.1 r.2 k).1
theorem qS_ok {r : QS} (k : Int) (h : okQ r) : okQ (qS r k) := ⟨nxt_in k h.1, h.2⟩

def qNumV (r : QS) (k : Int) : Int := IntKind.i64.wrap (getF ((qV r (szN k)).getD []))
end Go.Proofs.YtfaailjhioobhaaGreat

/- Readers of the reference: Int, Text, Part, From, More. -/
set_option linter.all false
set_option maxRecDepth 20000
namespace Go.Proofs.YtfaailjhioobhaaGreat
open Go.Nk

def rqV (r : QS) (k : Int) : Option (List UInt8) := qV (qS r (szN k)) (qNumV r k)
def rqS (r : QS) (k : Int) : QS := qS (qS r (szN k)) (qNumV r k)
theorem rqS_ok {r : QS} (k : Int) (h : okQ r) : okQ (rqS r k) := qS_ok _ (qS_ok _ h)
def qIntV (r : QS) : Int := match rqV r 1 with
  | some b => if bad b then 0 else sgn b
  | none => 0
def qIntS (r : QS) : QS := match rqV r 1 with
  | some b => if bad b then (r.1, none) else rqS r 1
  | none => (r.1, none)
theorem qIntS_ok {r : QS} (h : okQ r) : okQ (qIntS r) := by
  unfold qIntS
  split
  · split
    · exact ⟨trivial, h.2⟩
    · exact rqS_ok 1 h
  · exact ⟨trivial, h.2⟩
def qMore (r : QS) : Bool := match r.2 with
  | some a => decide (a < r.1.length)
  | none => false
end Go.Proofs.YtfaailjhioobhaaGreat

/- ReaderReads at the data level: it answers true. -/
set_option linter.all false
set_option maxRecDepth 20000
namespace Go.Proofs.YtfaailjhioobhaaGreat
open Go.Nk

theorem nextV_to (l : List UInt8) (s : Option Nat) (k : Int) : nextV (toP l s) k = qV (l, s) k := by cases s <;> rfl
theorem nextS_to (l : List UInt8) (s : Option Nat) (k : Int) : nextS (toP l s) k = toP l (qS (l, s) k).2 := by cases s <;> rfl
theorem numV_to (l : List UInt8) (s : Option Nat) (k : Int) : numV (toP l s) k = qNumV (l, s) k := by unfold numV qNumV; rw [nextV_to]
theorem rawV_to (l : List UInt8) (s : Option Nat) (k : Int) : rawV (toP l s) k = rqV (l, s) k := by unfold rawV rqV; rw [nextS_to, numV_to, nextV_to]; rfl
theorem rawS_to (l : List UInt8) (s : Option Nat) (k : Int) : rawS (toP l s) k = toP l (rqS (l, s) k).2 := by unfold rawS rqS; rw [nextS_to, numV_to, nextS_to]; rfl
theorem intV_to (l : List UInt8) (s : Option Nat) : intV (toP l s) = qIntV (l, s) := by unfold intV qIntV; rw [rawV_to]; all_goals (cases rqV (l, s) 1 <;> rfl)
theorem intS_to (l : List UInt8) (s : Option Nat) : intS (toP l s) = toP l (qIntS (l, s)).2 := by
  unfold intS qIntS
  rw [rawV_to, rawS_to]
  cases rqV (l, s) 1 with
  | none => rfl
  | some b => cases h : bad b <;> simp only [h, Bool.false_eq_true, if_false, if_true] <;> rfl
theorem qIntS_1 (l : List UInt8) (s : Option Nat) : qIntS (l, s) = (l, (qIntS (l, s)).2) := by
  unfold qIntS
  split
  · split <;> rfl
  · rfl

structure Piece where
  d : Int
  n : Int
  z : Int
  i : Int
  s : List UInt8
/-! what holds of readers at the law's calls -/
theorem fSame_self {b : List UInt8} (h : small b) : fSame b b = (True, .bool true) := by unfold fSame; simp [h]

end Go.Proofs.YtfaailjhioobhaaGreat

/- The page's example of a reader; ReaderReads of every arguments. -/
set_option linter.all false
set_option maxRecDepth 20000
namespace Go.Proofs.YtfaailjhioobhaaGreat
open Go.Nk

end Go.Proofs.YtfaailjhioobhaaGreat

