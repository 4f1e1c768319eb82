/- The page's example of a reader; ReaderReads of every arguments. -/
import Derived.Test.YtpohoagllmocnaaRdReads
set_option linter.unusedSimpArgs false
set_option linter.unusedVariables false
set_option maxRecDepth 20000
namespace Go.Proofs.Ytpohoagllmocnaa
open Go.Nk

def liveL : List UInt8 := [0, 2, 97, 98, 2, 255, 127, 1]

theorem ok_live : OkP Try.prog 6 s_live := by
  refine OkP.mk0 (ps := []) (hs := [(7, s_rFrom), (9, s_Num), (11, s_rInt), (13, s_rText), (18, s_Ok), (19, s_At), (20, s_More)]) trivial
    ⟨ok_reader_From, ok_reader_Num, ok_reader_Int, ok_reader_Text, ok_reader_Ok, ok_reader_At, ok_reader_More, trivial⟩ m_norialaw03_live fun _ => ?_
  have f1 : s_rFrom [.sl [[.int .u8 0], [.int .u8 2], [.int .u8 97], [.int .u8 98], [.int .u8 2], [.int .u8 255], [.int .u8 127], [.int .u8 1]]] [] = ⟨True, .ptr 0 1 0 0, [oP (some (liveL, 0))]⟩ := by
    refine (s_rFrom_at liveL []).trans ?_
    have : liveL.length ≤ 4294967296 := by decide
    simp only [this, List.nil_append, List.length_nil]
  have k0 : okP (some (liveL, 0)) := ⟨Nat.zero_le _, by unfold ok62; decide⟩
  have k4 : okP (some (liveL, 4)) := ⟨by decide, by unfold ok62; decide⟩
  have k7 : okP (some (liveL, 7)) := ⟨by decide, by unfold ok62; decide⟩
  have v1 : textV (some (liveL, 0)) = [97, 98] := by kernel_rfl
  have v2 : rawS (some (liveL, 0)) 2 = some (liveL, 4) := by kernel_rfl
  have v3 : intV (some (liveL, 4)) = -129 := by kernel_rfl
  have v4 : intS (some (liveL, 4)) = some (liveL, 7) := by kernel_rfl
  have v5 : moreO (some (liveL, 7)) = true := by kernel_rfl
  have v6 : numV (some (liveL, 7)) 2 = 0 := by kernel_rfl
  have v7 : nextS (some (liveL, 7)) (szN 2) = none := by kernel_rfl
  have n1 := s_rText_at (hp := [oP (some (liveL, 0))]) (n := 0) (r := some (liveL, 0)) rfl
  have n2 := s_rInt_at (hp := [oP (some (liveL, 4))]) (n := 0) (r := some (liveL, 4)) rfl
  have n3 := s_At_at (hp := [oP (some (liveL, 7))]) (n := 0) (r := some (liveL, 7)) rfl
  have n4 := s_More_at (hp := [oP (some (liveL, 7))]) (n := 0) (r := some (liveL, 7)) rfl
  have n5 := s_Num_at (hp := [oP (some (liveL, 7))]) (n := 0) (r := some (liveL, 7)) rfl 2
  have n6 := s_Ok_at (hp := [oP none]) (n := 0) (r := none) rfl
  have n7 := s_At_at (hp := [oP none]) (n := 0) (r := none) rfl
  rw [v1, v2] at n1
  rw [v3, v4] at n2
  rw [v5] at n4
  rw [v6, v7] at n5
  simp only [List.set_cons_zero] at n1 n2 n3 n4 n5 n6 n7
  simp only [d_norialaw03_live, false_and, and_false, if_false, ite_true, ite_false, eI, eU, eB, eS, eBs, eL, eA, List.cons_append, List.take_succ_cons, List.drop_succ_cons, buildCells, List.take_zero, List.take_nil, ↓dwp_skip, ↓dwp_ops, ↓dwp_opsP,  ↓dwp_opsS, sepsD, sepB, hdl, Only_set, Only_same, Only_zero, Only_succ, ↓dwp_seq, ↓dwp_block, ↓dwp_exit, ↓dwp_ret, ↓dwp_cond, dvalX, DOp.kind, dops_nil, dops_none, dops_some, ↓then_normal, ↓then_exit, ↓then_ret, ↓inBlock_normal, ↓inBlock_exit, ↓inBlock_ret, put_some, put_none, ev_t, ev_c, endP_normal, endP_ret, endH_normal, endH_ret, dval, frameFrom, get_cons, Nk.get_nil, Nat.reduceEqDiff, Nat.reduceAdd, ↓reduceIte, if_true, Nat.succ_ne_self, true_and, and_true, Bool.not_true, beq_ft, beq_tf, bne_ft, bne_tf, bne_self_eq_false, Bool.not_false, dBin, dInt, dStr, dBeq, dUn, dLoad, cellsAt, retV, retL, DR.val, fzT, fzVs, fzV, fz1, DV.immB, List.map_cons, List.map_nil, Option.map_some, Option.map_none, Bool.false_eq_true, false_implies, forall_const, Bool.true_eq_false, reduceCtorEq, implies_true, Int.toNat_natCast, Nat.zero_ne_one, Nat.one_ne_zero, Nat.reduceSub, List.length_cons, List.length_nil, List.getD_cons_zero, List.getD_cons_succ, Int.reduceToNat, IntKind.bits, Int.reducePow, Nat.reducePow, Nat.lt_add_one, Nat.zero_lt_one, Int.reduceLE, Int.reduceLT, Nat.reduceLeDiff, Nat.reduceLT, Nat.zero_add,  decide_eq_true_eq, decide_eq_false_iff_not, Int.ofNat_lt, bsl_length, dCallP, viewVs, viewV, view1, viewL, noMemV, noMem, of_p, of_h, pOf_cons, hOf_cons, spec0_at, specB1_at, specB2_at, specB1_nil, specB2_nil1, specB2_nil2, specB2_nil3, spec1_at, List.all_cons, List.all_nil, Bool.and_true, Bool.and_false, Bool.true_and, Bool.false_and, not_true_eq_false, not_false_eq_true, List.getElem?_cons_zero, List.getElem?_cons_succ, List.set_cons_zero, List.set_set, List.set_cons_succ, elemsOf, dAppend, dStore, DV.one, alive, freezeAt, List.drop_zero, List.take_length, List.not_mem_nil, List.forall_mem_cons, List.nil_append, fzLL, fzL, bRow, bU, cellsOf, true_or, or_true, or_false, false_or, or_self, setFrom, DV.isU, beq_self_eq_true, List.length_set, List.length_append, List.length_replicate, decide_true, decide_false, gt_iff_lt, ge_iff_le, slice_lo, slice_hi, slice_both, List.getElem?_nil, Int.reduceBEq, Int.reduceBNe, Int.reduceEq, Int.reduceNe, Int.reduceAdd, Int.reduceSub, Int.reduceMul, Int.reduceNeg, Int.reduceTDiv, Int.reduceTMod, Int.reduceMod, Int.reduceDiv, ne_eq, DV.tup.injEq, DV.int.injEq, DV.bool.injEq, DV.agg.injEq, DV.str.injEq, List.cons.injEq, f1, n1, n2, n3, n4, n5, n6, n7, k0, k4, k7, atO, Option.isSome_none, Int.cast_ofNat_Int]

theorem readerReads_tells (dvs : List DV) (h : HasAll Try.prog [22, 23] dvs) : TellsP Try.prog 3 dvs (.bool true) := by
  obtain ⟨d1, r, rfl, h1, d2, r', rfl, h2, rfl⟩ := h
  obtain ⟨l, rfl, hl⟩ := HasV_bsl (by kernel_rfl) h1
  have rd : Reads (.struct [.int .i64, .int .i64, .int .i64, .int .i64, .str]) cPiece (fun _ => True) :=
    Reads.as (Reads.struct (Reads.cons Reads.int (Reads.cons Reads.int (Reads.cons Reads.int (Reads.cons Reads.int (Reads.cons Reads.str Reads.nil)))))) (fun x => ⟨x.1, x.2.1, x.2.2.1, x.2.2.2.1, x.2.2.2.2.1⟩) (fun _ => rfl) (fun _ _ => trivial)
  obtain ⟨pl, rfl, hp, _⟩ := HasV_sl (by kernel_rfl) rd h2
  have hm : maxLen < 9223372036854775808 := by decide
  exact (tellsP_of (of_ok (ps := psReads) (hs := hsReads) ⟨ok_noriaref01_Same, ok_live, trivial⟩
    ⟨ok_reader_From, ok_ref_From, ok_reader_Num, ok_ref_rNum, ok_reader_Int, ok_ref_rInt, ok_reader_Text, ok_ref_Text, ok_reader_Part, ok_ref_Part, ok_reader_Ok, ok_reader_At, ok_reader_More, ok_ref_More, trivial⟩)
    (dargs := [.sl (bsl l), .sl (pl.map cPiece)]) m_norialaw03_ReaderReads (reads_run l pl (by omega) (by omega))).2
end Go.Proofs.Ytpohoagllmocnaa
