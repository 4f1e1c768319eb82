/- Writers whose field is nil; readers of own bytes. -/
import Derived.Test.YtpohoagllmocnaaRbLaw
set_option linter.unusedSimpArgs false
set_option linter.unusedVariables false
set_option maxRecDepth 20000
namespace Go.Proofs.Ytpohoagllmocnaa
open Go.Nk

open Classical in
noncomputable def orS (s t : List DV → List DObj → Res) : List DV → List DObj → Res := fun a hp => if (s a hp).pre then s a hp else t a hp
theorem OkH.or {P : Program} {f : FuncId} {s t : List DV → List DObj → Res} (h1 : OkH P f s) (h2 : OkH P f t) : OkH P f (orS s t) := by
  intro a hp h
  unfold orS at h ⊢
  split at h
  · rename_i hs; simp only [hs, if_true]; exact h1 a hp hs
  · rename_i hs; simp only [hs, if_false]; exact h2 a hp h
theorem orS_l {s t : List DV → List DObj → Res} {a : List DV} {hp hp' : List DObj} {v : DV} (h : s a hp = ⟨True, v, hp'⟩) : orS s t a hp = ⟨True, v, hp'⟩ := by
  unfold orS
  rw [if_pos (by rw [h]; trivial), h]
theorem orS_r {s t : List DV → List DObj → Res} {a : List DV} {hp : List DObj} (h : ¬ (s a hp).pre) : orS s t a hp = t a hp := if_neg h

noncomputable def s_wNil (v : DV) : List DV → List DObj → Res := fun a hp => ⟨∃ n, a = [.ptr n 1 0 0] ∧ hp[n]? = some ⟨.loc, 2, [[.nil, .bool true]]⟩, v, hp⟩
theorem s_wNil_at (v : DV) {hp : List DObj} {n : Nat} (h : hp[n]? = some ⟨.loc, 2, [[.nil, .bool true]]⟩) : s_wNil v [.ptr n 1 0 0] hp = ⟨True, v, hp⟩ := by
  unfold s_wNil
  simp only [Res.mk.injEq, and_true]
  exact eq_true ⟨n, rfl, h⟩
theorem s_wNil_no (v : DV) {hp : List DObj} {n m : Nat} {s : WS} (h : isW true hp n m s) : ¬ (s_wNil v [.ptr n 1 0 0] hp).pre := by
  rintro ⟨n', h1, h2⟩
  simp only [List.cons.injEq, DV.ptr.injEq, and_true] at h1
  subst h1
  cases s with
  | some b => have := h.1.symm.trans h2; simp at this
  | none => have := (show hp[n]? = _ from h).symm.trans h2; simp at this
theorem s_wNil_nilp (v : DV) (hp : List DObj) : ¬ (s_wNil v [.nilp] hp).pre := by
  rintro ⟨n', h1, h2⟩
  cases (List.cons.inj h1).1
theorem ok_wOkN : OkH Try.prog 31 (s_wNil (.bool true)) := by
  refine OkH.mk (ps := []) (hs := []) (n := 1) trivial trivial m_reader_Writer_Ok fun a hp h => ?_
  obtain ⟨n, rfl, hh⟩ := h
  refine ⟨rfl, ?_⟩
  have hn : n < hp.length := (List.getElem?_eq_some_iff.1 hh).1
  simp only [d_reader_Writer_Ok, s_wNil, false_and, and_false, if_false, ite_true, ite_false, eI, eU, eB, eS, eBs, eL, eA, List.cons_append, List.take_succ_cons, List.drop_succ_cons, buildCells, List.take_zero, List.take_nil, ↓dwp_skip, ↓dwp_ops, ↓dwp_opsP,  ↓dwp_opsS, sepsD, sepB, hdl, Only_set, Only_same, Only_zero, Only_succ, ↓dwp_seq, ↓dwp_block, ↓dwp_exit, ↓dwp_ret, ↓dwp_cond, dvalX, DOp.kind, dops_nil, dops_none, dops_some, ↓then_normal, ↓then_exit, ↓then_ret, ↓inBlock_normal, ↓inBlock_exit, ↓inBlock_ret, put_some, put_none, ev_t, ev_c, endP_normal, endP_ret, endH_normal, endH_ret, dval, frameFrom, get_cons, Nk.get_nil, Nat.reduceEqDiff, Nat.reduceAdd, ↓reduceIte, if_true, Nat.succ_ne_self, true_and, and_true, Bool.not_true, beq_ft, beq_tf, bne_ft, bne_tf, bne_self_eq_false, Bool.not_false, dBin, dInt, dStr, dBeq, dUn, dLoad, cellsAt, retV, retL, DR.val, fzT, fzVs, fzV, fz1, DV.immB, List.map_cons, List.map_nil, Option.map_some, Option.map_none, Bool.false_eq_true, false_implies, forall_const, Bool.true_eq_false, reduceCtorEq, implies_true, Int.toNat_natCast, Nat.zero_ne_one, Nat.one_ne_zero, Nat.reduceSub, List.length_cons, List.length_nil, List.getD_cons_zero, List.getD_cons_succ, Int.reduceToNat, IntKind.bits, Int.reducePow, Nat.reducePow, Nat.lt_add_one, Nat.zero_lt_one, Int.reduceLE, Int.reduceLT, Nat.reduceLeDiff, Nat.reduceLT, Nat.zero_add,  decide_eq_true_eq, decide_eq_false_iff_not, Int.ofNat_lt, bsl_length, dCallP, viewVs, viewV, view1, viewL, noMemV, noMem, of_p, of_h, pOf_cons, hOf_cons, spec0_at, specB1_at, specB2_at, specB1_nil, specB2_nil1, specB2_nil2, specB2_nil3, spec1_at, List.all_cons, List.all_nil, Bool.and_true, Bool.and_false, Bool.true_and, Bool.false_and, not_true_eq_false, not_false_eq_true, List.getElem?_cons_zero, List.getElem?_cons_succ, List.set_cons_zero, List.set_set, List.set_cons_succ, elemsOf, dAppend, dStore, DV.one, alive, freezeAt, List.drop_zero, List.take_length, List.not_mem_nil, List.forall_mem_cons, List.nil_append, fzLL, fzL, bRow, bU, cellsOf, true_or, or_true, or_false, false_or, or_self, setFrom, DV.isU, beq_self_eq_true, List.length_set, List.length_append, List.length_replicate, decide_true, decide_false, gt_iff_lt, ge_iff_le, slice_lo, slice_hi, slice_both, List.getElem?_nil, Int.reduceBEq, Int.reduceBNe, Int.reduceEq, Int.reduceNe, Int.reduceAdd, Int.reduceSub, Int.reduceMul, Int.reduceNeg, Int.reduceTDiv, Int.reduceTMod, Int.reduceMod, Int.reduceDiv, ne_eq, DV.tup.injEq, DV.int.injEq, DV.bool.injEq, DV.agg.injEq, DV.str.injEq, List.cons.injEq, dPeq, hh, hn]
noncomputable def s_CloneN : List DV → List DObj → Res := fun a hp => ⟨a = [.nil], .nil, hp⟩
theorem s_CloneN_at (hp : List DObj) : s_CloneN [.nil] hp = ⟨True, .nil, hp⟩ := by unfold s_CloneN; simp
theorem ok_CloneN : OkH Try.prog 33 s_CloneN := by
  refine OkH.mk (ps := []) (hs := []) (n := 1) trivial trivial m_slices_Clone_byte_byte fun a hp h => ?_
  have h' : a = [.nil] := h
  subst h'
  refine ⟨rfl, ?_⟩
  simp only [d_slices_Clone_byte_byte, false_and, and_false, if_false, ite_true, ite_false, eI, eU, eB, eS, eBs, eL, eA, List.cons_append, List.take_succ_cons, List.drop_succ_cons, buildCells, List.take_zero, List.take_nil, ↓dwp_skip, ↓dwp_ops, ↓dwp_opsP,  ↓dwp_opsS, sepsD, sepB, hdl, Only_set, Only_same, Only_zero, Only_succ, ↓dwp_seq, ↓dwp_block, ↓dwp_exit, ↓dwp_ret, ↓dwp_cond, dvalX, DOp.kind, dops_nil, dops_none, dops_some, ↓then_normal, ↓then_exit, ↓then_ret, ↓inBlock_normal, ↓inBlock_exit, ↓inBlock_ret, put_some, put_none, ev_t, ev_c, endP_normal, endP_ret, endH_normal, endH_ret, dval, frameFrom, get_cons, Nk.get_nil, Nat.reduceEqDiff, Nat.reduceAdd, ↓reduceIte, if_true, Nat.succ_ne_self, true_and, and_true, Bool.not_true, beq_ft, beq_tf, bne_ft, bne_tf, bne_self_eq_false, Bool.not_false, dBin, dInt, dStr, dBeq, dUn, dLoad, cellsAt, retV, retL, DR.val, fzT, fzVs, fzV, fz1, DV.immB, List.map_cons, List.map_nil, Option.map_some, Option.map_none, Bool.false_eq_true, false_implies, forall_const, Bool.true_eq_false, reduceCtorEq, implies_true, Int.toNat_natCast, Nat.zero_ne_one, Nat.one_ne_zero, Nat.reduceSub, List.length_cons, List.length_nil, List.getD_cons_zero, List.getD_cons_succ, Int.reduceToNat, IntKind.bits, Int.reducePow, Nat.reducePow, Nat.lt_add_one, Nat.zero_lt_one, Int.reduceLE, Int.reduceLT, Nat.reduceLeDiff, Nat.reduceLT, Nat.zero_add,  decide_eq_true_eq, decide_eq_false_iff_not, Int.ofNat_lt, bsl_length, dCallP, viewVs, viewV, view1, viewL, noMemV, noMem, of_p, of_h, pOf_cons, hOf_cons, spec0_at, specB1_at, specB2_at, specB1_nil, specB2_nil1, specB2_nil2, specB2_nil3, spec1_at, List.all_cons, List.all_nil, Bool.and_true, Bool.and_false, Bool.true_and, Bool.false_and, not_true_eq_false, not_false_eq_true, List.getElem?_cons_zero, List.getElem?_cons_succ, List.set_cons_zero, List.set_set, List.set_cons_succ, elemsOf, dAppend, dStore, DV.one, alive, freezeAt, List.drop_zero, List.take_length, List.not_mem_nil, List.forall_mem_cons, List.nil_append, fzLL, fzL, bRow, bU, cellsOf, true_or, or_true, or_false, false_or, or_self, setFrom, DV.isU, beq_self_eq_true, List.length_set, List.length_append, List.length_replicate, decide_true, decide_false, gt_iff_lt, ge_iff_le, slice_lo, slice_hi, slice_both, List.getElem?_nil, Int.reduceBEq, Int.reduceBNe, Int.reduceEq, Int.reduceNe, Int.reduceAdd, Int.reduceSub, Int.reduceMul, Int.reduceNeg, Int.reduceTDiv, Int.reduceTMod, Int.reduceMod, Int.reduceDiv, ne_eq, DV.tup.injEq, DV.int.injEq, DV.bool.injEq, DV.agg.injEq, DV.str.injEq, List.cons.injEq, s_CloneN]
theorem ok_wBytesN : OkH Try.prog 32 (s_wNil .nil) := by
  refine OkH.mk (ps := []) (hs := [(31, s_wNil (.bool true)), (33, s_CloneN)]) (n := 1) trivial ⟨ok_wOkN, ok_CloneN, trivial⟩ m_reader_Writer_Bytes fun a hp h => ?_
  obtain ⟨n, rfl, hh⟩ := h
  refine ⟨rfl, ?_⟩
  have hn : n < hp.length := (List.getElem?_eq_some_iff.1 hh).1
  have o := s_wNil_at (.bool true) hh
  have w := s_wNil_at .nil hh
  simp only [d_reader_Writer_Bytes, false_and, and_false, if_false, ite_true, ite_false, eI, eU, eB, eS, eBs, eL, eA, List.cons_append, List.take_succ_cons, List.drop_succ_cons, buildCells, List.take_zero, List.take_nil, ↓dwp_skip, ↓dwp_ops, ↓dwp_opsP,  ↓dwp_opsS, sepsD, sepB, hdl, Only_set, Only_same, Only_zero, Only_succ, ↓dwp_seq, ↓dwp_block, ↓dwp_exit, ↓dwp_ret, ↓dwp_cond, dvalX, DOp.kind, dops_nil, dops_none, dops_some, ↓then_normal, ↓then_exit, ↓then_ret, ↓inBlock_normal, ↓inBlock_exit, ↓inBlock_ret, put_some, put_none, ev_t, ev_c, endP_normal, endP_ret, endH_normal, endH_ret, dval, frameFrom, get_cons, Nk.get_nil, Nat.reduceEqDiff, Nat.reduceAdd, ↓reduceIte, if_true, Nat.succ_ne_self, true_and, and_true, Bool.not_true, beq_ft, beq_tf, bne_ft, bne_tf, bne_self_eq_false, Bool.not_false, dBin, dInt, dStr, dBeq, dUn, dLoad, cellsAt, retV, retL, DR.val, fzT, fzVs, fzV, fz1, DV.immB, List.map_cons, List.map_nil, Option.map_some, Option.map_none, Bool.false_eq_true, false_implies, forall_const, Bool.true_eq_false, reduceCtorEq, implies_true, Int.toNat_natCast, Nat.zero_ne_one, Nat.one_ne_zero, Nat.reduceSub, List.length_cons, List.length_nil, List.getD_cons_zero, List.getD_cons_succ, Int.reduceToNat, IntKind.bits, Int.reducePow, Nat.reducePow, Nat.lt_add_one, Nat.zero_lt_one, Int.reduceLE, Int.reduceLT, Nat.reduceLeDiff, Nat.reduceLT, Nat.zero_add,  decide_eq_true_eq, decide_eq_false_iff_not, Int.ofNat_lt, bsl_length, dCallP, viewVs, viewV, view1, viewL, noMemV, noMem, of_p, of_h, pOf_cons, hOf_cons, spec0_at, specB1_at, specB2_at, specB1_nil, specB2_nil1, specB2_nil2, specB2_nil3, spec1_at, List.all_cons, List.all_nil, Bool.and_true, Bool.and_false, Bool.true_and, Bool.false_and, not_true_eq_false, not_false_eq_true, List.getElem?_cons_zero, List.getElem?_cons_succ, List.set_cons_zero, List.set_set, List.set_cons_succ, elemsOf, dAppend, dStore, DV.one, alive, freezeAt, List.drop_zero, List.take_length, List.not_mem_nil, List.forall_mem_cons, List.nil_append, fzLL, fzL, bRow, bU, cellsOf, true_or, or_true, or_false, false_or, or_self, setFrom, DV.isU, beq_self_eq_true, List.length_set, List.length_append, List.length_replicate, decide_true, decide_false, gt_iff_lt, ge_iff_le, slice_lo, slice_hi, slice_both, List.getElem?_nil, Int.reduceBEq, Int.reduceBNe, Int.reduceEq, Int.reduceNe, Int.reduceAdd, Int.reduceSub, Int.reduceMul, Int.reduceNeg, Int.reduceTDiv, Int.reduceTMod, Int.reduceMod, Int.reduceDiv, ne_eq, DV.tup.injEq, DV.int.injEq, DV.bool.injEq, DV.agg.injEq, DV.str.injEq, List.cons.injEq, o, w, s_CloneN_at, hh, hn]

/-! From, of own bytes -/
def bytesOf (hp : List DObj) : List DV → List (List DV)
  | [.own m _ _ _] => (hp.getD m default).es
  | _ => []
def frzOf (hp : List DObj) : List DV → List DObj
  | [.own m _ _ _] => hp.set m ⟨.frz, 1, (hp.getD m default).es⟩
  | _ => hp
noncomputable def s_rFromB : List DV → List DObj → Res := fun a hp =>
  ⟨(∃ l : List UInt8, (a = [.nil] ∧ l = [] ∨ ∃ m, a = [.own m l.length 0 l.length] ∧ hp[m]? = some ⟨.imm, 1, bsl l⟩) ∧ l.length ≤ 4294967296), .ptr hp.length 1 0 0, frzOf hp a ++ [⟨.loc, 3, [[.sl (bytesOf hp a), .bool true, .int .i64 0]]⟩]⟩
theorem s_rFromB_nil (hp : List DObj) : s_rFromB [.nil] hp = ⟨True, .ptr hp.length 1 0 0, hp ++ [oP (some ([], 0))]⟩ := by
  unfold s_rFromB
  simp only [oP, bytesOf, frzOf, Res.mk.injEq, and_true]
  refine ⟨eq_true ⟨[], .inl (by simp), by decide⟩, ?_⟩
  simp [bsl]
theorem s_rFromB_own {hp : List DObj} {m : Nat} {b : List UInt8} (h : hp[m]? = some ⟨.imm, 1, bsl b⟩) (hl : b.length ≤ 4294967296) : s_rFromB [.own m b.length 0 b.length] hp = ⟨True, .ptr hp.length 1 0 0, hp.set m ⟨.frz, 1, bsl b⟩ ++ [oP (some (b, 0))]⟩ := by
  unfold s_rFromB
  simp only [oP, bytesOf, frzOf, List.getD, h, Option.getD_some, Res.mk.injEq, and_true]
  exact ⟨eq_true ⟨b, .inr ⟨m, rfl, h⟩, hl⟩, trivial, rfl⟩
theorem ok_rFromB : OkH Try.prog 7 s_rFromB := by
  refine OkH.mk (ps := [(33, specB1 fClone)]) (hs := []) (n := 1) ⟨ok_slices_Clone_byte_byte, trivial⟩ trivial m_reader_From fun a hp h => ?_
  obtain ⟨l, h, hl⟩ := h
  rcases h with ⟨rfl, rfl⟩ | ⟨m, rfl, hm⟩
  · refine ⟨rfl, ?_⟩
    have e : fClone [] = (True, .sl []) := by unfold fClone; simp [bsl]
    simp only [d_reader_From, s_rFromB, bytesOf, frzOf, false_and, and_false, if_false, ite_true, ite_false, eI, eU, eB, eS, eBs, eL, eA, List.cons_append, List.take_succ_cons, List.drop_succ_cons, buildCells, List.take_zero, List.take_nil, ↓dwp_skip, ↓dwp_ops, ↓dwp_opsP,  ↓dwp_opsS, sepsD, sepB, hdl, Only_set, Only_same, Only_zero, Only_succ, ↓dwp_seq, ↓dwp_block, ↓dwp_exit, ↓dwp_ret, ↓dwp_cond, dvalX, DOp.kind, dops_nil, dops_none, dops_some, ↓then_normal, ↓then_exit, ↓then_ret, ↓inBlock_normal, ↓inBlock_exit, ↓inBlock_ret, put_some, put_none, ev_t, ev_c, endP_normal, endP_ret, endH_normal, endH_ret, dval, frameFrom, get_cons, Nk.get_nil, Nat.reduceEqDiff, Nat.reduceAdd, ↓reduceIte, if_true, Nat.succ_ne_self, true_and, and_true, Bool.not_true, beq_ft, beq_tf, bne_ft, bne_tf, bne_self_eq_false, Bool.not_false, dBin, dInt, dStr, dBeq, dUn, dLoad, cellsAt, retV, retL, DR.val, fzT, fzVs, fzV, fz1, DV.immB, List.map_cons, List.map_nil, Option.map_some, Option.map_none, Bool.false_eq_true, false_implies, forall_const, Bool.true_eq_false, reduceCtorEq, implies_true, Int.toNat_natCast, Nat.zero_ne_one, Nat.one_ne_zero, Nat.reduceSub, List.length_cons, List.length_nil, List.getD_cons_zero, List.getD_cons_succ, Int.reduceToNat, IntKind.bits, Int.reducePow, Nat.reducePow, Nat.lt_add_one, Nat.zero_lt_one, Int.reduceLE, Int.reduceLT, Nat.reduceLeDiff, Nat.reduceLT, Nat.zero_add,  decide_eq_true_eq, decide_eq_false_iff_not, Int.ofNat_lt, bsl_length, dCallP, viewVs, viewV, view1, viewL, noMemV, noMem, of_p, of_h, pOf_cons, hOf_cons, spec0_at, specB1_at, specB2_at, specB1_nil, specB2_nil1, specB2_nil2, specB2_nil3, spec1_at, List.all_cons, List.all_nil, Bool.and_true, Bool.and_false, Bool.true_and, Bool.false_and, not_true_eq_false, not_false_eq_true, List.getElem?_cons_zero, List.getElem?_cons_succ, List.set_cons_zero, List.set_set, List.set_cons_succ, elemsOf, dAppend, dStore, DV.one, alive, freezeAt, List.drop_zero, List.take_length, List.not_mem_nil, List.forall_mem_cons, List.nil_append, fzLL, fzL, bRow, bU, cellsOf, true_or, or_true, or_false, false_or, or_self, setFrom, DV.isU, beq_self_eq_true, List.length_set, List.length_append, List.length_replicate, decide_true, decide_false, gt_iff_lt, ge_iff_le, slice_lo, slice_hi, slice_both, List.getElem?_nil, Int.reduceBEq, Int.reduceBNe, Int.reduceEq, Int.reduceNe, Int.reduceAdd, Int.reduceSub, Int.reduceMul, Int.reduceNeg, Int.reduceTDiv, Int.reduceTMod, Int.reduceMod, Int.reduceDiv, ne_eq, DV.tup.injEq, DV.int.injEq, DV.bool.injEq, DV.agg.injEq, DV.str.injEq, List.cons.injEq, specB1_nil, e]
  · refine ⟨rfl, ?_⟩
    have hd : (hp.getD m default).es = bsl l := by simp [List.getD, hm]
    have tk : (bsl l).take l.length = bsl l := List.take_of_length_le (by simp [bsl_length])
    simp only [d_reader_From, s_rFromB, bytesOf, frzOf, false_and, and_false, if_false, ite_true, ite_false, eI, eU, eB, eS, eBs, eL, eA, List.cons_append, List.take_succ_cons, List.drop_succ_cons, buildCells, List.take_zero, List.take_nil, ↓dwp_skip, ↓dwp_ops, ↓dwp_opsP,  ↓dwp_opsS, sepsD, sepB, hdl, Only_set, Only_same, Only_zero, Only_succ, ↓dwp_seq, ↓dwp_block, ↓dwp_exit, ↓dwp_ret, ↓dwp_cond, dvalX, DOp.kind, dops_nil, dops_none, dops_some, ↓then_normal, ↓then_exit, ↓then_ret, ↓inBlock_normal, ↓inBlock_exit, ↓inBlock_ret, put_some, put_none, ev_t, ev_c, endP_normal, endP_ret, endH_normal, endH_ret, dval, frameFrom, get_cons, Nk.get_nil, Nat.reduceEqDiff, Nat.reduceAdd, ↓reduceIte, if_true, Nat.succ_ne_self, true_and, and_true, Bool.not_true, beq_ft, beq_tf, bne_ft, bne_tf, bne_self_eq_false, Bool.not_false, dBin, dInt, dStr, dBeq, dUn, dLoad, cellsAt, retV, retL, DR.val, fzT, fzVs, fzV, fz1, DV.immB, List.map_cons, List.map_nil, Option.map_some, Option.map_none, Bool.false_eq_true, false_implies, forall_const, Bool.true_eq_false, reduceCtorEq, implies_true, Int.toNat_natCast, Nat.zero_ne_one, Nat.one_ne_zero, Nat.reduceSub, List.length_cons, List.length_nil, List.getD_cons_zero, List.getD_cons_succ, Int.reduceToNat, IntKind.bits, Int.reducePow, Nat.reducePow, Nat.lt_add_one, Nat.zero_lt_one, Int.reduceLE, Int.reduceLT, Nat.reduceLeDiff, Nat.reduceLT, Nat.zero_add,  decide_eq_true_eq, decide_eq_false_iff_not, Int.ofNat_lt, bsl_length, dCallP, viewVs, viewV, view1, viewL, noMemV, noMem, of_p, of_h, pOf_cons, hOf_cons, spec0_at, specB1_at, specB2_at, specB1_nil, specB2_nil1, specB2_nil2, specB2_nil3, spec1_at, List.all_cons, List.all_nil, Bool.and_true, Bool.and_false, Bool.true_and, Bool.false_and, not_true_eq_false, not_false_eq_true, List.getElem?_cons_zero, List.getElem?_cons_succ, List.set_cons_zero, List.set_set, List.set_cons_succ, elemsOf, dAppend, dStore, DV.one, alive, freezeAt, List.drop_zero, List.take_length, List.not_mem_nil, List.forall_mem_cons, List.nil_append, fzLL, fzL, bRow, bU, cellsOf, true_or, or_true, or_false, false_or, or_self, setFrom, DV.isU, beq_self_eq_true, List.length_set, List.length_append, List.length_replicate, decide_true, decide_false, gt_iff_lt, ge_iff_le, slice_lo, slice_hi, slice_both, List.getElem?_nil, Int.reduceBEq, Int.reduceBNe, Int.reduceEq, Int.reduceNe, Int.reduceAdd, Int.reduceSub, Int.reduceMul, Int.reduceNeg, Int.reduceTDiv, Int.reduceTMod, Int.reduceMod, Int.reduceDiv, ne_eq, DV.tup.injEq, DV.int.injEq, DV.bool.injEq, DV.agg.injEq, DV.str.injEq, List.cons.injEq, fClone, hl, hm, hd, tk]
    exact Nat.le_refl _
end Go.Proofs.Ytpohoagllmocnaa
