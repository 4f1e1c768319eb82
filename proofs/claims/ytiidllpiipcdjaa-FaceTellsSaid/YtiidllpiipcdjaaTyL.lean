/- The kinds of a type's cells, laid behind a Shape's. -/
import Derived.Test.YtiidllpiipcdjaaTyK
set_option linter.all false
set_option maxRecDepth 20000
namespace Go.Proofs.Ytiidllpiipcdjaa
open Go.Nk

/-- A Shape that is made: where its list of numbers of constructors lies, its kinds, its places. -/
structure Shp where
  hc : Nat
  lc : Nat
  ks : List Int
  lo : Int
  hi : Int
@[reducible] def TS : Duo Shp := ⟨fun m v => ⟨.loc, 4, [[.own v.hc v.lc 0 v.lc, .own m v.ks.length 0 v.ks.length, .int .i64 v.lo, .int .i64 v.hi]]⟩, fun v => ⟨.imm, 1, ils v.ks⟩⟩
structure rS where
  t : Ty
  n : Nat
  m : Nat
  v : Shp
def relS (x : rS) (a : List DV) (hp : List DObj) : Prop := a = [.agg (cTy x.t), .ptr x.n 1 0 0] ∧ TS.is hp x.n x.m x.v ∧ x.v.hc < hp.length
theorem relS_u : ∀ x y a hp, relS x a hp → relS y a hp → x = y := by
  rintro ⟨t, n, m, ⟨hc, lc, ks, lo, hi⟩⟩ ⟨t', n', m', ⟨hc', lc', ks', lo', hi'⟩⟩ a hp ⟨h1, ⟨h2, h3, _⟩, _⟩ ⟨h4, ⟨h5, h6, _⟩, _⟩
  subst h1
  simp only [List.cons.injEq, DV.ptr.injEq, and_true] at h4
  obtain ⟨h4, rfl⟩ := h4
  have ht : t = t' := cTy_inj _ _ (by simpa using h4)
  subst ht
  simp only at h2 h3 h5 h6
  rw [h2] at h5
  injection h5 with h5
  injection h5 with _ _ h5
  simp only [List.cons.injEq, DV.own.injEq, DV.int.injEq, true_and, and_true] at h5
  obtain ⟨⟨rfl, rfl, _⟩, ⟨rfl, h7, _⟩, rfl, rfl⟩ := h5
  rw [h3] at h6
  injection h6 with h6
  injection h6 with _ _ h6
  have e1 := ils_inj h6
  subst e1; rfl
def addK (v : Shp) (t : Ty) : Shp := { v with ks := v.ks ++ kindsOf t }
noncomputable def s_lay : List DV → List DObj → Res := specG relS (fun x => (x.v.ks.length ≤ 1000000000, .tup [])) fun x hp => TS.put hp x.n x.m (addK x.v x.t)
theorem s_lay_run (t : Ty) (n m : Nat) (v : Shp) (hp : List DObj) (h : TS.is hp n m v) (hc : v.hc < hp.length) : s_lay [.agg (cTy t), .ptr n 1 0 0] hp =
    ⟨v.ks.length ≤ 1000000000, .tup [], TS.put hp n m (addK v t)⟩ := specG_at relS_u (x := ⟨t, n, m, v⟩) ⟨rfl, h, hc⟩
theorem TS_set {hp t : List DObj} {n m : Nat} {v : Shp} {x : Int} (k : Three hp n m) :
    ((TS.put hp n m v ++ t).set m ⟨.imm, 1, ils (v.ks ++ [x])⟩).set n ⟨.loc, 4, [[.own v.hc v.lc 0 v.lc, .own m (v.ks.length + 1) 0 (v.ks.length + 1), .int .i64 v.lo, .int .i64 v.hi]]⟩ = TS.put hp n m { v with ks := v.ks ++ [x] } ++ t := by
  obtain ⟨k1, k2, k3⟩ := k
  rw [List.set_append_left _ _ (by simpa [Duo.put] using k2), List.set_append_left _ _ (by simpa [Duo.put] using k1)]
  congr 1
  unfold Duo.put
  refine List.ext_getElem? fun i => ?_
  by_cases h1 : n = i <;> by_cases h2 : m = i <;> simp_all [List.getElem?_set]
theorem TS_get {hp t : List DObj} {n m : Nat} {v : Shp} {o : DObj} (k : Three hp n m) : ((TS.put hp n m v ++ t).set m o)[n]? = some (TS.o m v) := by
  rw [List.getElem?_set_ne (fun h => k.2.2 h.symm)]
  exact Duo.get_o k
theorem ok_gen_Shape_1 : OkH Try.prog 51 s_lay := by
  refine OkH.mkG (ps := [(43, s_CellsTy), (52, s_Kind6)]) (hs := []) ⟨ok_CellsTy, ok_Kind6, trivial⟩ trivial m_gen_Shape_1 (by rintro x a hp ⟨rfl, _⟩; rfl) ?_
  rintro ⟨t, n, m, v⟩ a hp ⟨rfl, hi, hv⟩ hl
  simp only at hi hv hl ⊢
  have k := Duo.is_three hi
  have hc := kindsOf_len t
  have hb := cellsTy_b t
  have e0 : (⟨frameFrom 0 [.agg (cTy t), .ptr n 1 0 0], hp⟩ : DS) = (⟨frameFrom 0 [.agg (cTy t), .ptr n 1 0 0], TS.put hp n m v ++ []⟩ : DS) := by rw [Duo.is_put hi, List.append_nil]
  rw [e0]
  
  (have hcond := Bool.and_self; refine Todo.of ?_); (repeat' (first | ((with_reducible refine Todo.to ?_); (repeat (first | (simp only [↓rP, rT, rU, eI, eU, eB, eS, eBs, eL, eA, buildCells, sepsD, sepB, hdl, dvalX, DOp.kind, dval, frameFrom, dBin, dInt, dStr, dBeq, dUn, dLoad, cellsAt, retV, retL, DR.val, fzT, fzVs, fzV, fz1, DV.immB, IntKind.bits, dCallP, viewVs, viewV, view1, capVL, capV, viewL, noMemV, noMem, elemsOf, dAppend, dAppz, dStore, DV.one, alive, freezeAt, fzLL, fzL, bRow, bU, cellsOf, setFrom, DV.isU, lenMax, Nat.reduceEqDiff, Nat.reduceAdd, ↓reduceIte, reduceCtorEq, Nat.reduceSub, Int.reduceToNat, Int.reducePow, Nat.reducePow, Int.reduceLE, Int.reduceLT, Nat.reduceLeDiff, Nat.reduceLT, Int.reduceBEq, Int.reduceBNe, Int.reduceEq, Int.reduceNe, Int.reduceAdd, Int.reduceSub, Int.reduceMul, Int.reduceNeg, Int.reduceTDiv, Int.reduceTMod, Int.reduceMod, Int.reduceDiv, Nat.reduceMul, forall_const, implies_true, d_gen_Shape_1, s_CellsTy_at, s_Kind6_at, eEns, eIls, eImg, ePrt, ePrts, eRows, eSs, eTy, sls_len, ils_len, ils_rowsT, List.append_assoc, Nat.add_zero, Duo.put_len, Duo.put_lenA, endT_normal, endT_ret, dSlice, dBound, List.length_drop, Nat.mul_one, Duo.get_b , hcond]) | (simp (disch := omega) only [i64_id, u64_id, u8_id, getD_map'])))) | ((with_reducible refine And.intro ?_ ?_); · first | trivial | omega | (simp; done) | (simp; omega)) | ((first | ((with_reducible refine dwp_condI (t := ?_) ?_ (fun hc => ?_) (fun hc => ?_)); rotate_left; · rfl) | ((with_reducible refine dops_guardI (t := ?_) ?_ (fun hc => ?_) (fun hc => ?_)); rotate_left; · rfl)) <;> (have hn := hc; have hcond := hc) <;> (try simp only [decide_eq_true_eq, decide_eq_false_iff_not, beq_iff_eq, bne_iff_ne, ne_eq, Bool.and_eq_true, Bool.or_eq_true, Bool.not_eq_true, Bool.not_eq_false, beq_eq_false_iff_ne, bne_eq_false_iff_eq, Bool.not_eq_true', Bool.not_eq_false', Int.ofNat_lt, Int.ofNat_le, Bool.or_eq_false_iff, Bool.and_eq_false_imp, Decidable.not_not, gt_iff_lt, ge_iff_le] at hn) <;> (try (exfalso; omega)) <;> (refine Todo.of ?_)) | (((with_reducible refine dwp_condA ?_ ?_ ?_); · rfl) <;> (refine Todo.of ?_)))) <;> (try (first | (with_reducible rfl) | exact Nat.le_refl _ | assumption))
  refine dwp_each (kindsOf t) (fun j (o : List Int) => ⟨[(1, .ptr n 1 0 0), (2, .ptr hp.length 1 0 0), (4, .int .i64 (cellsTy t)), (5, .int .i64 j)], TS.put hp n m { v with ks := o } ++ [⟨.loc, 3, [cTy t]⟩]⟩) (fun k r o => o ++ r = v.ks ++ kindsOf t ∧ o.length ≤ 1000000000 + k) v.ks trivial (by simp only [cut_some, cut_none, List.map_cons, List.map_nil, get_cons, Nk.get_nil, Nat.reduceEqDiff, ↓reduceIte, Nat.succ_ne_self, DV.cut, DV.inB, DObj.cut, List.take_nil, List.take_zero, if_true, Nat.zero_ne_one, Nat.one_ne_zero, DV.inBL, Bool.and_true, Bool.true_and, reduceCtorEq, Nat.zero_lt_one, decide_true, decide_false, Nat.reduceLT, List.take_succ_cons, Int.natCast_add, Int.natCast_one, List.length_append, List.length_cons, List.length_nil, Nat.zero_add] <;> rfl) ⟨rfl, by omega⟩ (fun j x r o d hx hd hr => ?_) (fun j o e hr => ?_)
  · obtain ⟨h1, h2⟩ := hr
    have hx2 := kindsOf_mem (mem_drop_of hd)
    subst hx2
    (have hcond := Bool.and_self; refine Todo.of ?_); (repeat' (first | ((with_reducible refine Todo.to ?_); (repeat (first | (simp only [↓rP, rT, rU, eI, eU, eB, eS, eBs, eL, eA, buildCells, sepsD, sepB, hdl, dvalX, DOp.kind, dval, frameFrom, dBin, dInt, dStr, dBeq, dUn, dLoad, cellsAt, retV, retL, DR.val, fzT, fzVs, fzV, fz1, DV.immB, IntKind.bits, dCallP, viewVs, viewV, view1, capVL, capV, viewL, noMemV, noMem, elemsOf, dAppend, dAppz, dStore, DV.one, alive, freezeAt, fzLL, fzL, bRow, bU, cellsOf, setFrom, DV.isU, lenMax, Nat.reduceEqDiff, Nat.reduceAdd, ↓reduceIte, reduceCtorEq, Nat.reduceSub, Int.reduceToNat, Int.reducePow, Nat.reducePow, Int.reduceLE, Int.reduceLT, Nat.reduceLeDiff, Nat.reduceLT, Int.reduceBEq, Int.reduceBNe, Int.reduceEq, Int.reduceNe, Int.reduceAdd, Int.reduceSub, Int.reduceMul, Int.reduceNeg, Int.reduceTDiv, Int.reduceTMod, Int.reduceMod, Int.reduceDiv, Nat.reduceMul, forall_const, implies_true, d_gen_Shape_1, s_CellsTy_at, s_Kind6_at, eEns, eIls, eImg, ePrt, ePrts, eRows, eSs, eTy, sls_len, ils_len, ils_rowsT, d, Duo.get_o k, Duo.get_c k, Duo.get_b, TS_get k, TS_set k, List.append_assoc, Nat.add_zero, Duo.put_len, Duo.put_lenA, endT_normal, endT_ret, dSlice, dBound, List.length_drop, Nat.mul_one, ils_snoc , hcond]) | (simp (disch := omega) only [i64_id, u64_id, u8_id, getD_map'])))) | ((with_reducible refine And.intro ?_ ?_); · first | trivial | omega | (simp; done) | (simp; omega)) | ((first | ((with_reducible refine dwp_condI (t := ?_) ?_ (fun hc => ?_) (fun hc => ?_)); rotate_left; · rfl) | ((with_reducible refine dops_guardI (t := ?_) ?_ (fun hc => ?_) (fun hc => ?_)); rotate_left; · rfl)) <;> (have hn := hc; have hcond := hc) <;> (try simp only [decide_eq_true_eq, decide_eq_false_iff_not, beq_iff_eq, bne_iff_ne, ne_eq, Bool.and_eq_true, Bool.or_eq_true, Bool.not_eq_true, Bool.not_eq_false, beq_eq_false_iff_ne, bne_eq_false_iff_eq, Bool.not_eq_true', Bool.not_eq_false', Int.ofNat_lt, Int.ofNat_le, Bool.or_eq_false_iff, Bool.and_eq_false_imp, Decidable.not_not, gt_iff_lt, ge_iff_le] at hn) <;> (try (exfalso; omega)) <;> (refine Todo.of ?_)) | (((with_reducible refine dwp_condA ?_ ?_ ?_); · rfl) <;> (refine Todo.of ?_)))) <;> (try (first | (with_reducible rfl) | exact Nat.le_refl _ | assumption))
    exact ⟨o ++ [kindOf t], by simp only [cut_some, cut_none, List.map_cons, List.map_nil, get_cons, Nk.get_nil, Nat.reduceEqDiff, ↓reduceIte, Nat.succ_ne_self, DV.cut, DV.inB, DObj.cut, List.take_nil, List.take_zero, if_true, Nat.zero_ne_one, Nat.one_ne_zero, DV.inBL, Bool.and_true, Bool.true_and, reduceCtorEq, Nat.zero_lt_one, decide_true, decide_false, Nat.reduceLT, List.take_succ_cons, Int.natCast_add, Int.natCast_one, List.length_append, List.length_cons, List.length_nil, Nat.zero_add] <;> rfl, by simpa using h1, by simp; omega⟩
  · obtain ⟨h1, h2⟩ := hr
    rw [List.append_nil] at h1
    subst h1
    (have hcond := Bool.and_self; refine Todo.of ?_); (repeat' (first | ((with_reducible refine Todo.to ?_); (repeat (first | (simp only [↓rP, rT, rU, eI, eU, eB, eS, eBs, eL, eA, buildCells, sepsD, sepB, hdl, dvalX, DOp.kind, dval, frameFrom, dBin, dInt, dStr, dBeq, dUn, dLoad, cellsAt, retV, retL, DR.val, fzT, fzVs, fzV, fz1, DV.immB, IntKind.bits, dCallP, viewVs, viewV, view1, capVL, capV, viewL, noMemV, noMem, elemsOf, dAppend, dAppz, dStore, DV.one, alive, freezeAt, fzLL, fzL, bRow, bU, cellsOf, setFrom, DV.isU, lenMax, Nat.reduceEqDiff, Nat.reduceAdd, ↓reduceIte, reduceCtorEq, Nat.reduceSub, Int.reduceToNat, Int.reducePow, Nat.reducePow, Int.reduceLE, Int.reduceLT, Nat.reduceLeDiff, Nat.reduceLT, Int.reduceBEq, Int.reduceBNe, Int.reduceEq, Int.reduceNe, Int.reduceAdd, Int.reduceSub, Int.reduceMul, Int.reduceNeg, Int.reduceTDiv, Int.reduceTMod, Int.reduceMod, Int.reduceDiv, Nat.reduceMul, forall_const, implies_true, d_gen_Shape_1, s_CellsTy_at, s_Kind6_at, eEns, eIls, eImg, ePrt, ePrts, eRows, eSs, eTy, sls_len, ils_len, ils_rowsT, e, List.append_assoc, Nat.add_zero, Duo.put_len, Duo.put_lenA, endT_normal, endT_ret, dSlice, dBound, List.length_drop, Nat.mul_one , hcond]) | (simp (disch := omega) only [i64_id, u64_id, u8_id, getD_map'])))) | ((with_reducible refine And.intro ?_ ?_); · first | trivial | omega | (simp; done) | (simp; omega)) | ((first | ((with_reducible refine dwp_condI (t := ?_) ?_ (fun hc => ?_) (fun hc => ?_)); rotate_left; · rfl) | ((with_reducible refine dops_guardI (t := ?_) ?_ (fun hc => ?_) (fun hc => ?_)); rotate_left; · rfl)) <;> (have hn := hc; have hcond := hc) <;> (try simp only [decide_eq_true_eq, decide_eq_false_iff_not, beq_iff_eq, bne_iff_ne, ne_eq, Bool.and_eq_true, Bool.or_eq_true, Bool.not_eq_true, Bool.not_eq_false, beq_eq_false_iff_ne, bne_eq_false_iff_eq, Bool.not_eq_true', Bool.not_eq_false', Int.ofNat_lt, Int.ofNat_le, Bool.or_eq_false_iff, Bool.and_eq_false_imp, Decidable.not_not, gt_iff_lt, ge_iff_le] at hn) <;> (try (exfalso; omega)) <;> (refine Todo.of ?_)) | (((with_reducible refine dwp_condA ?_ ?_ ?_); · rfl) <;> (refine Todo.of ?_)))) <;> (try (first | (with_reducible rfl) | exact Nat.le_refl _ | assumption))
    exact ⟨⟨_, rfl⟩, Duo.put_end (by simp [DObj.cut, DV.cut, DV.inB, addK, hv, k.2.1]) cut_imm⟩
end Go.Proofs.Ytiidllpiipcdjaa
