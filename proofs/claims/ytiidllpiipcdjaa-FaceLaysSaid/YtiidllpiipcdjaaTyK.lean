/- The kinds of a type's cells, laid behind others. -/
import Derived.Test.YtiidllpiipcdjaaTyJ
set_option linter.all false
set_option maxRecDepth 20000
namespace Go.Proofs.Ytiidllpiipcdjaa
open Go.Nk

def kindsOf (t : Ty) : List Int := List.replicate (cellsTy t).toNat (kindOf t)
theorem kindsOf_len (t : Ty) : (kindsOf t).length = (cellsTy t).toNat := by simp [kindsOf]
theorem kindsOf_mem {t : Ty} {x : Int} (h : x ∈ kindsOf t) : x = kindOf t := List.eq_of_mem_replicate h
theorem ils_snoc (l : List Int) (x : Int) : ils l ++ [[.int .i64 x]] = ils (l ++ [x]) := by simp [ils]

structure rK where
  t : Ty
  m : Nat
  ks : List Int
def relK (x : rK) (a : List DV) (hp : List DObj) : Prop := a = [.own x.m x.ks.length 0 x.ks.length, .agg (cTy x.t)] ∧ hp[x.m]? = some ⟨.imm, 1, ils x.ks⟩
theorem relK_u : ∀ x y a hp, relK x a hp → relK y a hp → x = y := by
  rintro ⟨t, m, ks⟩ ⟨t', m', ks'⟩ a hp ⟨h1, h2⟩ ⟨h3, h4⟩
  subst h1
  simp only [List.cons.injEq, DV.own.injEq, DV.agg.injEq, and_true] at h3
  obtain ⟨⟨rfl, h5, _⟩, h6⟩ := h3
  simp only at h2 h4
  rw [h2] at h4
  injection h4 with h4
  injection h4 with _ _ h4
  have e1 := ils_inj h4
  have e2 : t = t' := cTy_inj _ _ (by simpa using h6)
  subst e1 e2; rfl
noncomputable def s_kinds : List DV → List DObj → Res := specG relK (fun x => (x.ks.length ≤ 1000000000, .own x.m (x.ks ++ kindsOf x.t).length 0 (x.ks ++ kindsOf x.t).length)) fun x hp => one hp x.m ⟨.imm, 1, ils (x.ks ++ kindsOf x.t)⟩
theorem s_kinds_run (t : Ty) (m : Nat) (ks : List Int) (hp : List DObj) (h : hp[m]? = some ⟨.imm, 1, ils ks⟩) : s_kinds [.own m ks.length 0 ks.length, .agg (cTy t)] hp =
    ⟨ks.length ≤ 1000000000, .own m (ks ++ kindsOf t).length 0 (ks ++ kindsOf t).length, one hp m ⟨.imm, 1, ils (ks ++ kindsOf t)⟩⟩ := specG_at relK_u (x := ⟨t, m, ks⟩) ⟨rfl, h⟩
theorem ok_noriaref32_kinds : OkH Try.prog 53 s_kinds := by
  refine OkH.mkG (ps := [(44, s_CellsTy), (63, s_Kind6)]) (hs := []) ⟨ok_refCellsTy, ok_refKind6, trivial⟩ trivial m_noriaref32_kinds (by rintro x a hp ⟨rfl, _⟩; rfl) ?_
  rintro ⟨t, m, ks⟩ a hp ⟨rfl, h⟩ hl
  simp only at h hl ⊢
  have hm := lt_of_some h
  have hh := one_is h
  have hc := kindsOf_len t
  have hb := cellsTy_b t
  have e0 : (⟨frameFrom 0 [.own m ks.length 0 ks.length, .agg (cTy t)], hp⟩ : DS) = (⟨frameFrom 0 [.own m ks.length 0 ks.length, .agg (cTy t)], one hp m ⟨.imm, 1, ils ks⟩ ++ []⟩ : DS) := by rw [hh, List.append_nil]
  rw [e0]
  
  (have hcond := Bool.and_self; refine Todo.of ?_); (repeat' (first | ((with_reducible refine Todo.to ?_); (repeat (first | (simp only [↓rP, rT, rU, eI, eU, eB, eS, eBs, eL, eA, buildCells, sepsD, sepB, hdl, dvalX, DOp.kind, dval, frameFrom, dBin, dInt, dStr, dBeq, dUn, dLoad, cellsAt, retV, retL, DR.val, fzT, fzVs, fzV, fz1, DV.immB, IntKind.bits, dCallP, viewVs, viewV, view1, capVL, capV, viewL, noMemV, noMem, elemsOf, dAppend, dAppz, dStore, DV.one, alive, freezeAt, fzLL, fzL, bRow, bU, cellsOf, setFrom, DV.isU, lenMax, Nat.reduceEqDiff, Nat.reduceAdd, ↓reduceIte, reduceCtorEq, Nat.reduceSub, Int.reduceToNat, Int.reducePow, Nat.reducePow, Int.reduceLE, Int.reduceLT, Nat.reduceLeDiff, Nat.reduceLT, Int.reduceBEq, Int.reduceBNe, Int.reduceEq, Int.reduceNe, Int.reduceAdd, Int.reduceSub, Int.reduceMul, Int.reduceNeg, Int.reduceTDiv, Int.reduceTMod, Int.reduceMod, Int.reduceDiv, Nat.reduceMul, forall_const, implies_true, d_noriaref32_kinds, s_CellsTy_at, s_Kind6_at, eEns, eIls, eImg, ePrt, ePrts, eRows, eSs, eTy, sls_len, ils_len, ils_rowsT, List.append_assoc, Nat.add_zero, one_len, one_lenA, one_b, one_b1, one_b2, one_setb, one_setb1 , hcond]) | (simp (disch := omega) only [i64_id, u64_id, u8_id, getD_map'])))) | ((with_reducible refine And.intro ?_ ?_); · first | trivial | omega | (simp; done) | (simp; omega)) | ((first | ((with_reducible refine dwp_condI (t := ?_) ?_ (fun hc => ?_) (fun hc => ?_)); rotate_left; · rfl) | ((with_reducible refine dops_guardI (t := ?_) ?_ (fun hc => ?_) (fun hc => ?_)); rotate_left; · rfl)) <;> (have hn := hc; have hcond := hc) <;> (try simp only [decide_eq_true_eq, decide_eq_false_iff_not, beq_iff_eq, bne_iff_ne, ne_eq, Bool.and_eq_true, Bool.or_eq_true, Bool.not_eq_true, Bool.not_eq_false, beq_eq_false_iff_ne, bne_eq_false_iff_eq, Bool.not_eq_true', Bool.not_eq_false', Int.ofNat_lt, Int.ofNat_le, Bool.or_eq_false_iff, Bool.and_eq_false_imp, Decidable.not_not, gt_iff_lt, ge_iff_le] at hn) <;> (try (exfalso; omega)) <;> (refine Todo.of ?_)) | (((with_reducible refine dwp_condA ?_ ?_ ?_); · rfl) <;> (refine Todo.of ?_)))) <;> (try (first | (with_reducible rfl) | exact Nat.le_refl _ | assumption))
  refine dwp_each (kindsOf t) (fun k (o : List Int) => ⟨[(0, .own m o.length 0 o.length), (3, .ptr hp.length 1 0 0), (5, .int .i64 k)], one hp m ⟨.imm, 1, ils o⟩ ++ [⟨.loc, 3, [cTy t]⟩]⟩) (fun k r o => o ++ r = ks ++ kindsOf t ∧ o.length ≤ 1000000000 + k) ks trivial (by simp only [cut_some, cut_none, List.map_cons, List.map_nil, get_cons, Nk.get_nil, Nat.reduceEqDiff, ↓reduceIte, Nat.succ_ne_self, DV.cut, DV.inB, DObj.cut, List.take_nil, List.take_zero, if_true, Nat.zero_ne_one, Nat.one_ne_zero, DV.inBL, Bool.and_true, Bool.true_and, reduceCtorEq, Nat.zero_lt_one, decide_true, decide_false, Nat.reduceLT, List.take_succ_cons, Int.natCast_add, Int.natCast_one, List.length_append, List.length_cons, List.length_nil, Nat.zero_add] <;> rfl) ⟨rfl, by omega⟩ (fun k x r o d hx hd hr => ?_) (fun k o e hr => ?_)
  · obtain ⟨h1, h2⟩ := hr
    have hx2 := kindsOf_mem (mem_drop_of hd)
    subst hx2
    (have hcond := Bool.and_self; refine Todo.of ?_); (repeat' (first | ((with_reducible refine Todo.to ?_); (repeat (first | (simp only [↓rP, rT, rU, eI, eU, eB, eS, eBs, eL, eA, buildCells, sepsD, sepB, hdl, dvalX, DOp.kind, dval, frameFrom, dBin, dInt, dStr, dBeq, dUn, dLoad, cellsAt, retV, retL, DR.val, fzT, fzVs, fzV, fz1, DV.immB, IntKind.bits, dCallP, viewVs, viewV, view1, capVL, capV, viewL, noMemV, noMem, elemsOf, dAppend, dAppz, dStore, DV.one, alive, freezeAt, fzLL, fzL, bRow, bU, cellsOf, setFrom, DV.isU, lenMax, Nat.reduceEqDiff, Nat.reduceAdd, ↓reduceIte, reduceCtorEq, Nat.reduceSub, Int.reduceToNat, Int.reducePow, Nat.reducePow, Int.reduceLE, Int.reduceLT, Nat.reduceLeDiff, Nat.reduceLT, Int.reduceBEq, Int.reduceBNe, Int.reduceEq, Int.reduceNe, Int.reduceAdd, Int.reduceSub, Int.reduceMul, Int.reduceNeg, Int.reduceTDiv, Int.reduceTMod, Int.reduceMod, Int.reduceDiv, Nat.reduceMul, forall_const, implies_true, d_noriaref32_kinds, s_CellsTy_at, s_Kind6_at, eEns, eIls, eImg, ePrt, ePrts, eRows, eSs, eTy, sls_len, ils_len, ils_rowsT, d, one_get hm, one_set hm, List.append_assoc, Nat.add_zero, one_len, one_lenA, one_b, one_b1, one_b2, one_setb, one_setb1, ils_snoc , hcond]) | (simp (disch := omega) only [i64_id, u64_id, u8_id, getD_map'])))) | ((with_reducible refine And.intro ?_ ?_); · first | trivial | omega | (simp; done) | (simp; omega)) | ((first | ((with_reducible refine dwp_condI (t := ?_) ?_ (fun hc => ?_) (fun hc => ?_)); rotate_left; · rfl) | ((with_reducible refine dops_guardI (t := ?_) ?_ (fun hc => ?_) (fun hc => ?_)); rotate_left; · rfl)) <;> (have hn := hc; have hcond := hc) <;> (try simp only [decide_eq_true_eq, decide_eq_false_iff_not, beq_iff_eq, bne_iff_ne, ne_eq, Bool.and_eq_true, Bool.or_eq_true, Bool.not_eq_true, Bool.not_eq_false, beq_eq_false_iff_ne, bne_eq_false_iff_eq, Bool.not_eq_true', Bool.not_eq_false', Int.ofNat_lt, Int.ofNat_le, Bool.or_eq_false_iff, Bool.and_eq_false_imp, Decidable.not_not, gt_iff_lt, ge_iff_le] at hn) <;> (try (exfalso; omega)) <;> (refine Todo.of ?_)) | (((with_reducible refine dwp_condA ?_ ?_ ?_); · rfl) <;> (refine Todo.of ?_)))) <;> (try (first | (with_reducible rfl) | exact Nat.le_refl _ | assumption))
    exact ⟨o ++ [kindOf t], by simp only [cut_some, cut_none, List.map_cons, List.map_nil, get_cons, Nk.get_nil, Nat.reduceEqDiff, ↓reduceIte, Nat.succ_ne_self, DV.cut, DV.inB, DObj.cut, List.take_nil, List.take_zero, if_true, Nat.zero_ne_one, Nat.one_ne_zero, DV.inBL, Bool.and_true, Bool.true_and, reduceCtorEq, Nat.zero_lt_one, decide_true, decide_false, Nat.reduceLT, List.take_succ_cons, Int.natCast_add, Int.natCast_one, List.length_append, List.length_cons, List.length_nil, Nat.zero_add] <;> rfl, by simpa using h1, by simp; omega⟩
  · obtain ⟨h1, h2⟩ := hr
    rw [List.append_nil] at h1
    subst h1
    (have hcond := Bool.and_self; refine Todo.of ?_); (repeat' (first | ((with_reducible refine Todo.to ?_); (repeat (first | (simp only [↓rP, rT, rU, eI, eU, eB, eS, eBs, eL, eA, buildCells, sepsD, sepB, hdl, dvalX, DOp.kind, dval, frameFrom, dBin, dInt, dStr, dBeq, dUn, dLoad, cellsAt, retV, retL, DR.val, fzT, fzVs, fzV, fz1, DV.immB, IntKind.bits, dCallP, viewVs, viewV, view1, capVL, capV, viewL, noMemV, noMem, elemsOf, dAppend, dAppz, dStore, DV.one, alive, freezeAt, fzLL, fzL, bRow, bU, cellsOf, setFrom, DV.isU, lenMax, Nat.reduceEqDiff, Nat.reduceAdd, ↓reduceIte, reduceCtorEq, Nat.reduceSub, Int.reduceToNat, Int.reducePow, Nat.reducePow, Int.reduceLE, Int.reduceLT, Nat.reduceLeDiff, Nat.reduceLT, Int.reduceBEq, Int.reduceBNe, Int.reduceEq, Int.reduceNe, Int.reduceAdd, Int.reduceSub, Int.reduceMul, Int.reduceNeg, Int.reduceTDiv, Int.reduceTMod, Int.reduceMod, Int.reduceDiv, Nat.reduceMul, forall_const, implies_true, d_noriaref32_kinds, s_CellsTy_at, s_Kind6_at, eEns, eIls, eImg, ePrt, ePrts, eRows, eSs, eTy, sls_len, ils_len, ils_rowsT, e, one_get hm, one_set hm, List.append_assoc, Nat.add_zero, one_len, one_lenA, one_b, one_b1, one_b2, one_setb, one_setb1 , hcond]) | (simp (disch := omega) only [i64_id, u64_id, u8_id, getD_map'])))) | ((with_reducible refine And.intro ?_ ?_); · first | trivial | omega | (simp; done) | (simp; omega)) | ((first | ((with_reducible refine dwp_condI (t := ?_) ?_ (fun hc => ?_) (fun hc => ?_)); rotate_left; · rfl) | ((with_reducible refine dops_guardI (t := ?_) ?_ (fun hc => ?_) (fun hc => ?_)); rotate_left; · rfl)) <;> (have hn := hc; have hcond := hc) <;> (try simp only [decide_eq_true_eq, decide_eq_false_iff_not, beq_iff_eq, bne_iff_ne, ne_eq, Bool.and_eq_true, Bool.or_eq_true, Bool.not_eq_true, Bool.not_eq_false, beq_eq_false_iff_ne, bne_eq_false_iff_eq, Bool.not_eq_true', Bool.not_eq_false', Int.ofNat_lt, Int.ofNat_le, Bool.or_eq_false_iff, Bool.and_eq_false_imp, Decidable.not_not, gt_iff_lt, ge_iff_le] at hn) <;> (try (exfalso; omega)) <;> (refine Todo.of ?_)) | (((with_reducible refine dwp_condA ?_ ?_ ?_); · rfl) <;> (refine Todo.of ?_)))) <;> (try (first | (with_reducible rfl) | exact Nat.le_refl _ | assumption))
    exact ⟨by simp [DV.inB, hm], ⟨_, rfl⟩, one_end cut_imm⟩
end Go.Proofs.Ytiidllpiipcdjaa
