/- ReaderWrites at the data level: it answers true. -/
import Derived.Test.YtpohoagllmocnaaWr4
set_option linter.unusedSimpArgs false
set_option linter.unusedVariables false
set_option maxRecDepth 20000
namespace Go.Proofs.Ytpohoagllmocnaa
open Go.Nk

noncomputable abbrev hsW : List (FuncId × (List DV → List DObj → Res)) := [(22, s_wNew), (23, s_wNum), (24, s_uNum), (25, s_wInt), (26, s_uInt), (27, s_wText), (28, s_uText), (29, s_wPart), (30, s_uPart), (31, s_wOk), (32, s_wBytes)]
noncomputable abbrev psW : List (FuncId × (List DV → Prop × DV)) := [(15, specB2 fSame), (6, s_live)]
noncomputable def CW : Orc := Orc.of psW hsW
theorem CW_New : CW.h 22 = s_wNew := rfl
theorem CW_Num : CW.h 23 = s_wNum := rfl
theorem CW_uNum : CW.h 24 = s_uNum := rfl
theorem CW_Int : CW.h 25 = s_wInt := rfl
theorem CW_uInt : CW.h 26 = s_uInt := rfl
theorem CW_Text : CW.h 27 = s_wText := rfl
theorem CW_uText : CW.h 28 = s_uText := rfl
theorem CW_Part : CW.h 29 = s_wPart := rfl
theorem CW_uPart : CW.h 30 = s_uPart := rfl
theorem CW_Ok : CW.h 31 = s_wOk := rfl
theorem CW_Bytes : CW.h 32 = s_wBytes := rfl
theorem CW_same : CW.p 15 = specB2 fSame := rfl
theorem CW_live : CW.p 6 = s_live := rfl

/-- The heap: both writers, their bytes, and what else. -/
def hW (ok : Bool) (b : List UInt8) (t : List DObj) : List DObj := match ok with
  | true => ⟨.loc, 2, [[.own 2 b.length 0 b.length, .bool true]]⟩ :: ⟨.loc, 2, [[.own 3 b.length 0 b.length, .bool false]]⟩ :: ⟨.imm, 1, bsl b⟩ :: ⟨.imm, 1, bsl b⟩ :: t
  | false => ⟨.loc, 2, [[.nil, .bool false]]⟩ :: ⟨.loc, 2, [[.nil, .bool true]]⟩ :: ⟨.imm, 1, bsl b⟩ :: ⟨.imm, 1, bsl b⟩ :: t
/-- After a piece. -/
def hA (ok : Bool) (b : List UInt8) (s : WS) (t : List DObj) : List DObj := match ok, s with
  | true, some c => hW true c t
  | true, none => hW false b t
  | false, _ => hW false b t
/-- Between the two. -/
def hB (ok : Bool) (b : List UInt8) (s : WS) (t : List DObj) : List DObj := match ok with
  | true => setW true (hW true b t) 0 2 s
  | false => hW false b t
theorem hW_len (ok : Bool) (b : List UInt8) (t : List DObj) : (hW ok b t).length = t.length + 4 := by cases ok <;> rfl
theorem hW_app (ok : Bool) (b : List UInt8) (t u : List DObj) : hW ok b t ++ u = hW ok b (t ++ u) := by cases ok <;> rfl
theorem hW_set (ok : Bool) (b : List UInt8) (a c : DObj) : (hW ok b [a]).set 4 c = hW ok b [c] := by cases ok <;> rfl
theorem hW_get (ok : Bool) (b : List UInt8) (a : DObj) : (hW ok b [a])[4]? = some a := by cases ok <;> rfl
theorem hB_get (ok : Bool) (b : List UInt8) (s : WS) (a : DObj) : (hB ok b s [a])[4]? = some a := by cases ok <;> cases s <;> rfl
theorem hB_len (ok : Bool) (b : List UInt8) (s : WS) (t : List DObj) : (hB ok b s t).length = t.length + 4 := by cases ok <;> cases s <;> rfl
theorem hA_get (ok : Bool) (b : List UInt8) (s : WS) (a : DObj) : (hA ok b s [a])[4]? = some a := by cases ok <;> cases s <;> rfl
theorem hA_len (ok : Bool) (b : List UInt8) (s : WS) (t : List DObj) : (hA ok b s t).length = t.length + 4 := by cases ok <;> cases s <;> rfl
theorem hW_cut (ok : Bool) (b : List UInt8) (t : List DObj) : ((hW ok b t).take 4).map (DObj.cut 4) = hW ok b [] := by cases ok <;> simp only [hW, List.take_succ_cons, List.take_zero, List.map_cons, List.map_nil, cut_some, cut_none, List.map_cons, List.map_nil, get_cons, Nk.get_nil, Nat.reduceEqDiff, ↓reduceIte, Nat.succ_ne_self, DV.cut, DV.inB, DObj.cut, List.take_nil, List.take_zero, if_true, Nat.zero_ne_one, Nat.one_ne_zero, DV.inBL, Bool.and_true, Bool.true_and, reduceCtorEq, Nat.zero_lt_one, decide_true, decide_false, Nat.reduceLT, List.take_succ_cons]
theorem hW_isW (b : List UInt8) (t : List DObj) : isW true (hW true b t) 0 2 (some b) := ⟨rfl, rfl, by decide⟩
theorem hW_isB (b : List UInt8) (t : List DObj) : isW true (hW false b t) 0 0 none := rfl
theorem hB_isW (b : List UInt8) (s : WS) (t : List DObj) : isW false (hB true b s t) 1 3 (some b) := by cases s <;> exact ⟨rfl, rfl, by decide⟩
theorem hB_isB (b : List UInt8) (s : WS) (t : List DObj) : isW false (hB false b s t) 1 0 none := rfl
theorem hB_setW (b : List UInt8) (s : WS) (t : List DObj) : setW false (hB true b s t) 1 3 s = hA true b s t := by cases s <;> rfl

theorem two_Num (ok : Bool) (b : List UInt8) (t : List DObj) (k z : Int) : ∃ p q : Prop, ((b.length + 4 ≤ 4294967296 ∧ k < 9223372036854775808) → p ∧ q) ∧ s_wNum (.ptr 0 1 0 0 :: [.int .i64 k, .int .i64 z]) (hW ok b t) = ⟨p, .tup [], hB ok b (wNum b k z) t⟩ ∧ s_uNum (.ptr 1 1 0 0 :: [.int .i64 k, .int .i64 z]) (hB ok b (wNum b k z) t) = ⟨q, .tup [], hA ok b (wNum b k z) t⟩ := by
  cases ok with
  | true =>
    refine ⟨_, _, ?_, s_wNum_at (hW_isW b t) k z, (s_uNum_at (hB_isW b _ t) k z).trans (by rw [hB_setW])⟩
    intro h
    first | exact ⟨⟨by omega, by omega⟩, ⟨by omega, by omega⟩⟩ | exact ⟨by omega, by omega⟩ | exact ⟨⟨by omega, by omega, by omega⟩, ⟨by omega, by omega, by omega⟩⟩
  | false =>
    refine ⟨_, _, ?_, s_wNum_bad (hW_isB b t) k z, s_uNum_bad (hB_isB b _ t) k z⟩
    intro h
    first | exact ⟨trivial, trivial⟩ | exact ⟨by omega, by omega⟩ | exact ⟨⟨by omega, by omega⟩, ⟨by omega, by omega⟩⟩
theorem two_Int (ok : Bool) (b : List UInt8) (t : List DObj) (x : Int) : ∃ p q : Prop, ((b.length + 20 ≤ 4294967296 ∧ -9223372036854775808 ≤ x ∧ x < 9223372036854775808) → p ∧ q) ∧ s_wInt (.ptr 0 1 0 0 :: [.int .i64 x]) (hW ok b t) = ⟨p, .tup [], hB ok b (wLen b (intF x) 1) t⟩ ∧ s_uInt (.ptr 1 1 0 0 :: [.int .i64 x]) (hB ok b (wLen b (intF x) 1) t) = ⟨q, .tup [], hA ok b (wLen b (intF x) 1) t⟩ := by
  cases ok with
  | true =>
    refine ⟨_, _, ?_, s_wInt_at (hW_isW b t) x, (s_uInt_at (hB_isW b _ t) x).trans (by rw [hB_setW])⟩
    intro h
    first | exact ⟨⟨by omega, by omega⟩, ⟨by omega, by omega⟩⟩ | exact ⟨by omega, by omega⟩ | exact ⟨⟨by omega, by omega, by omega⟩, ⟨by omega, by omega, by omega⟩⟩
  | false =>
    refine ⟨_, _, ?_, s_wInt_bad (hW_isB b t) x, s_uInt_bad (hB_isB b _ t) x⟩
    intro h
    first | exact ⟨trivial, trivial⟩ | exact ⟨by omega, by omega⟩ | exact ⟨⟨by omega, by omega⟩, ⟨by omega, by omega⟩⟩
theorem two_Text (ok : Bool) (b : List UInt8) (t : List DObj) (c : List UInt8) : ∃ p q : Prop, ((b.length + c.length + 20 ≤ 4294967296) → p ∧ q) ∧ s_wText (.ptr 0 1 0 0 :: [.str c]) (hW ok b t) = ⟨p, .tup [], hB ok b (wLen b c 2) t⟩ ∧ s_uText (.ptr 1 1 0 0 :: [.str c]) (hB ok b (wLen b c 2) t) = ⟨q, .tup [], hA ok b (wLen b c 2) t⟩ := by
  cases ok with
  | true =>
    refine ⟨_, _, ?_, s_wText_at (hW_isW b t) c, (s_uText_at (hB_isW b _ t) c).trans (by rw [hB_setW])⟩
    intro h
    first | exact ⟨⟨by omega, by omega⟩, ⟨by omega, by omega⟩⟩ | exact ⟨by omega, by omega⟩ | exact ⟨⟨by omega, by omega, by omega⟩, ⟨by omega, by omega, by omega⟩⟩
  | false =>
    refine ⟨_, _, ?_, s_wText_bad (hW_isB b t) c, s_uText_bad (hB_isB b _ t) c⟩
    intro h
    first | exact ⟨trivial, trivial⟩ | exact ⟨by omega, by omega⟩ | exact ⟨⟨by omega, by omega⟩, ⟨by omega, by omega⟩⟩
theorem two_Part (ok : Bool) (b : List UInt8) (t : List DObj) (c : List UInt8) : ∃ p q : Prop, ((b.length + c.length + 20 ≤ 4294967296) → p ∧ q) ∧ s_wPart (.ptr 0 1 0 0 :: [.sl (bsl c)]) (hW ok b t) = ⟨p, .tup [], hB ok b (wLen b c 4) t⟩ ∧ s_uPart (.ptr 1 1 0 0 :: [.sl (bsl c)]) (hB ok b (wLen b c 4) t) = ⟨q, .tup [], hA ok b (wLen b c 4) t⟩ := by
  cases ok with
  | true =>
    refine ⟨_, _, ?_, s_wPart_at (hW_isW b t) c, (s_uPart_at (hB_isW b _ t) c).trans (by rw [hB_setW])⟩
    intro h
    first | exact ⟨⟨by omega, by omega⟩, ⟨by omega, by omega⟩⟩ | exact ⟨by omega, by omega⟩ | exact ⟨⟨by omega, by omega, by omega⟩, ⟨by omega, by omega, by omega⟩⟩
  | false =>
    refine ⟨_, _, ?_, s_wPart_bad (hW_isB b t) c, s_uPart_bad (hB_isB b _ t) c⟩
    intro h
    first | exact ⟨trivial, trivial⟩ | exact ⟨by omega, by omega⟩ | exact ⟨⟨by omega, by omega⟩, ⟨by omega, by omega⟩⟩

theorem wNum_ne {b c : List UInt8} {k z : Int} (h : wNum b k z = some c) : c ≠ [] := by
  unfold wNum at h
  split at h
  · cases h
  · rename_i hc
    injection h with h
    intro e
    have := congrArg List.length h
    rw [e, List.length_append, putL_length] at this
    simp only [List.length_nil] at this
    omega
theorem wLen_ne {b c e : List UInt8} {z : Int} (h : wLen b c z = some e) : e ≠ [] := by
  unfold wLen at h
  split at h
  · rename_i b' hb
    injection h with h
    have := wNum_ne hb
    rw [← h]
    simp [this]
  · cases h
theorem wLen_len {b c e : List UInt8} {z : Int} (h : wLen b c z = some e) : e.length ≤ b.length + c.length + 4 := by
  unfold wLen at h
  split at h
  · rename_i b' hb
    injection h with h
    have := wNum_len hb
    rw [← h, List.length_append]
    omega
  · cases h

theorem writes_rest (P : DV) (ok : Bool) (b : List UInt8) (k : Nat) (Q : DExit → DS → Prop) (hb : ok = true → b ≠ []) (hl : b.length ≤ 4294967296)
    (hQ : ∀ fr t, get 0 fr = P → get 3 fr = .ptr 0 1 0 0 → get 4 fr = .ptr 1 1 0 0 → get 5 fr = .int .i64 k → Q .normal ⟨fr, hW ok b t⟩) :
    dwp CW 0 c_norialaw03_ReaderWrites_1 Q ⟨[(0, P), (3, .ptr 0 1 0 0), (4, .ptr 1 1 0 0), (5, .int .i64 k)], hW ok b []⟩ := by
  cases ok with
  | true =>
    have o1 := s_wOk_at (hW_isW b [])
    have o2 := s_wBytes_at (hW_isW b [])
    rw [eq_true (show b ≠ [] ∧ b.length ≤ 4294967296 from ⟨hb rfl, hl⟩)] at o2
    have fs := fSame_self (b := b) (by unfold small; omega)
    have g1 : (hW true b [])[1]? = some ⟨.loc, 2, [[.own 3 b.length 0 b.length, .bool false]]⟩ := rfl
    have g1t : ∀ t, (hW true b t)[1]? = some ⟨.loc, 2, [[.own 3 b.length 0 b.length, .bool false]]⟩ := fun t => rfl
    have g3 : ∀ t, (hW true b t)[3]? = some ⟨.imm, 1, bsl b⟩ := fun t => rfl
    have g4 : ∀ a, (hW true b [a])[4]? = some a := fun a => rfl
    have tk : (bsl b).take b.length = bsl b := List.take_of_length_le (by simp [bsl_length])
    have r := bsl_rows (l := b)
    simp only [c_norialaw03_ReaderWrites_1, false_and, and_false, if_false, ite_true, ite_false, eI, eU, eB, eS, eBs, eL, eA, List.cons_append, List.take_succ_cons, List.drop_succ_cons, buildCells, List.take_zero, List.take_nil, ↓dwp_skip, ↓dwp_ops, ↓dwp_opsP,  ↓dwp_opsS, sepsD, sepB, hdl, Only_set, Only_same, Only_zero, Only_succ, ↓dwp_seq, ↓dwp_block, ↓dwp_exit, ↓dwp_ret, ↓dwp_cond, dvalX, DOp.kind, dops_nil, dops_none, dops_some, ↓then_normal, ↓then_exit, ↓then_ret, ↓inBlock_normal, ↓inBlock_exit, ↓inBlock_ret, put_some, put_none, ev_t, ev_c, endP_normal, endP_ret, endH_normal, endH_ret, dval, frameFrom, get_cons, Nk.get_nil, Nat.reduceEqDiff, Nat.reduceAdd, ↓reduceIte, if_true, Nat.succ_ne_self, true_and, and_true, Bool.not_true, beq_ft, beq_tf, bne_ft, bne_tf, bne_self_eq_false, Bool.not_false, dBin, dInt, dStr, dBeq, dUn, dLoad, cellsAt, retV, retL, DR.val, fzT, fzVs, fzV, fz1, DV.immB, List.map_cons, List.map_nil, Option.map_some, Option.map_none, Bool.false_eq_true, false_implies, forall_const, Bool.true_eq_false, reduceCtorEq, implies_true, Int.toNat_natCast, Nat.zero_ne_one, Nat.one_ne_zero, Nat.reduceSub, List.length_cons, List.length_nil, List.getD_cons_zero, List.getD_cons_succ, Int.reduceToNat, IntKind.bits, Int.reducePow, Nat.reducePow, Nat.lt_add_one, Nat.zero_lt_one, Int.reduceLE, Int.reduceLT, Nat.reduceLeDiff, Nat.reduceLT, Nat.zero_add,  decide_eq_true_eq, decide_eq_false_iff_not, Int.ofNat_lt, bsl_length, dCallP, viewVs, viewV, view1, viewL, noMemV, noMem, of_p, of_h, pOf_cons, hOf_cons, spec0_at, specB1_at, specB2_at, specB1_nil, specB2_nil1, specB2_nil2, specB2_nil3, spec1_at, List.all_cons, List.all_nil, Bool.and_true, Bool.and_false, Bool.true_and, Bool.false_and, not_true_eq_false, not_false_eq_true, List.getElem?_cons_zero, List.getElem?_cons_succ, List.set_cons_zero, List.set_set, List.set_cons_succ, elemsOf, dAppend, dStore, DV.one, alive, freezeAt, List.drop_zero, List.take_length, List.not_mem_nil, List.forall_mem_cons, List.nil_append, fzLL, fzL, bRow, bU, cellsOf, true_or, or_true, or_false, false_or, or_self, setFrom, DV.isU, beq_self_eq_true, List.length_set, List.length_append, List.length_replicate, decide_true, decide_false, gt_iff_lt, ge_iff_le, slice_lo, slice_hi, slice_both, List.getElem?_nil, Int.reduceBEq, Int.reduceBNe, Int.reduceEq, Int.reduceNe, Int.reduceAdd, Int.reduceSub, Int.reduceMul, Int.reduceNeg, Int.reduceTDiv, Int.reduceTMod, Int.reduceMod, Int.reduceDiv, ne_eq, DV.tup.injEq, DV.int.injEq, DV.bool.injEq, DV.agg.injEq, DV.str.injEq, List.cons.injEq, CW_New, CW_Num, CW_uNum, CW_Int, CW_uInt, CW_Text, CW_uText, CW_Part, CW_uPart, CW_Ok, CW_Bytes, CW_same, CW_live, o1, o2, fs, hW_len, hW_app, g1t, g3, g4, tk, r]
    refine ⟨⟨_, rfl⟩, ⟨Nat.le_refl _, Nat.le_refl _⟩, ?_⟩
    exact hQ _ _ (by simp only [get_cons]; rfl) (by simp only [get_cons]; rfl) (by simp only [get_cons]; rfl) (by simp only [get_cons]; rfl)
  | false =>
    have o1 := s_wOk_bad (hW_isB b [])
    have o2 := s_wBytes_bad (hW_isB b [])
    have fs := fSame_self (b := []) (by unfold small; decide)
    have g1t : ∀ t, (hW false b t)[1]? = some ⟨.loc, 2, [[.nil, .bool true]]⟩ := fun t => rfl
    simp only [c_norialaw03_ReaderWrites_1, false_and, and_false, if_false, ite_true, ite_false, eI, eU, eB, eS, eBs, eL, eA, List.cons_append, List.take_succ_cons, List.drop_succ_cons, buildCells, List.take_zero, List.take_nil, ↓dwp_skip, ↓dwp_ops, ↓dwp_opsP,  ↓dwp_opsS, sepsD, sepB, hdl, Only_set, Only_same, Only_zero, Only_succ, ↓dwp_seq, ↓dwp_block, ↓dwp_exit, ↓dwp_ret, ↓dwp_cond, dvalX, DOp.kind, dops_nil, dops_none, dops_some, ↓then_normal, ↓then_exit, ↓then_ret, ↓inBlock_normal, ↓inBlock_exit, ↓inBlock_ret, put_some, put_none, ev_t, ev_c, endP_normal, endP_ret, endH_normal, endH_ret, dval, frameFrom, get_cons, Nk.get_nil, Nat.reduceEqDiff, Nat.reduceAdd, ↓reduceIte, if_true, Nat.succ_ne_self, true_and, and_true, Bool.not_true, beq_ft, beq_tf, bne_ft, bne_tf, bne_self_eq_false, Bool.not_false, dBin, dInt, dStr, dBeq, dUn, dLoad, cellsAt, retV, retL, DR.val, fzT, fzVs, fzV, fz1, DV.immB, List.map_cons, List.map_nil, Option.map_some, Option.map_none, Bool.false_eq_true, false_implies, forall_const, Bool.true_eq_false, reduceCtorEq, implies_true, Int.toNat_natCast, Nat.zero_ne_one, Nat.one_ne_zero, Nat.reduceSub, List.length_cons, List.length_nil, List.getD_cons_zero, List.getD_cons_succ, Int.reduceToNat, IntKind.bits, Int.reducePow, Nat.reducePow, Nat.lt_add_one, Nat.zero_lt_one, Int.reduceLE, Int.reduceLT, Nat.reduceLeDiff, Nat.reduceLT, Nat.zero_add,  decide_eq_true_eq, decide_eq_false_iff_not, Int.ofNat_lt, bsl_length, dCallP, viewVs, viewV, view1, viewL, noMemV, noMem, of_p, of_h, pOf_cons, hOf_cons, spec0_at, specB1_at, specB2_at, specB1_nil, specB2_nil1, specB2_nil2, specB2_nil3, spec1_at, List.all_cons, List.all_nil, Bool.and_true, Bool.and_false, Bool.true_and, Bool.false_and, not_true_eq_false, not_false_eq_true, List.getElem?_cons_zero, List.getElem?_cons_succ, List.set_cons_zero, List.set_set, List.set_cons_succ, elemsOf, dAppend, dStore, DV.one, alive, freezeAt, List.drop_zero, List.take_length, List.not_mem_nil, List.forall_mem_cons, List.nil_append, fzLL, fzL, bRow, bU, cellsOf, true_or, or_true, or_false, false_or, or_self, setFrom, DV.isU, beq_self_eq_true, List.length_set, List.length_append, List.length_replicate, decide_true, decide_false, gt_iff_lt, ge_iff_le, slice_lo, slice_hi, slice_both, List.getElem?_nil, Int.reduceBEq, Int.reduceBNe, Int.reduceEq, Int.reduceNe, Int.reduceAdd, Int.reduceSub, Int.reduceMul, Int.reduceNeg, Int.reduceTDiv, Int.reduceTMod, Int.reduceMod, Int.reduceDiv, ne_eq, DV.tup.injEq, DV.int.injEq, DV.bool.injEq, DV.agg.injEq, DV.str.injEq, List.cons.injEq, CW_New, CW_Num, CW_uNum, CW_Int, CW_uInt, CW_Text, CW_uText, CW_Part, CW_uPart, CW_Ok, CW_Bytes, CW_same, CW_live, o1, o2, fs, hW_len, g1t, specB2_nil3]
    first | refine ⟨⟨_, (List.append_nil _).symm⟩, ?_⟩ | refine ⟨⟨[], by simp⟩, ?_⟩ | skip
    exact hQ _ _ (by simp only [get_cons]; rfl) (by simp only [get_cons]; rfl) (by simp only [get_cons]; rfl) (by simp only [get_cons]; rfl)
end Go.Proofs.Ytpohoagllmocnaa
