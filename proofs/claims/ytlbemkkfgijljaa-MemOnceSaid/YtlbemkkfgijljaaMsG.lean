/- What a Flow keeps at first: the program's. -/
import Derived.Test.YtlbemkkfgijljaaMsF
set_option linter.all false
set_option maxRecDepth 20000
namespace Go.Proofs.Ytlbemkkfgijljaa
open Go.Nk

structure rB where
  n : Nat
  m : Nat
  v : List Cel
  l : Fls
  at_ : Int
  ah : List UInt8
@[reducible] def cAdd (n : Nat) : DV := .clo 43 [.ptr n 1 0 0]
def rBel (x : rB) (a : List DV) (hp : List DObj) : Prop := a = [.agg (cFls x.l), .int .i64 x.at_, .str x.ah, cAdd x.n] ∧ TD.is hp x.n x.m x.v
theorem rBel_u : ∀ x y a hp, rBel x a hp → rBel y a hp → x = y := by
  rintro ⟨n, m, v, l, i, p⟩ ⟨n', m', v', l', i', p'⟩ a hp ⟨h1, h2⟩ ⟨h3, h4⟩
  simp only at h1 h2 h3 h4
  rw [h1] at h3
  injection h3 with e1 h3
  injection h3 with e2 h3
  injection h3 with e3 h3
  injection h3 with e4 h3
  injection e1 with e1
  injection e2 with _ e2
  injection e3 with e3
  injection e4 with _ e4
  injection e4 with e4 _
  injection e4 with e4 _ _ _
  subst e2 e3 e4
  have := cFls_inj _ _ e1
  subst this
  obtain ⟨rfl, rfl⟩ := TD_u h2 h4
  rfl
def okB (N : Nat) (x : rB) : Prop := okS x.l x.at_ N ∧ x.v.length + (startN x.l N x.at_).length ≤ 1000 ∧ x.ah.length + N * 281474976710656 ≤ 1152921504606846976
def outB (N : Nat) (x : rB) : List Cel := x.v ++ (startN x.l N x.at_).map (preC x.ah)
noncomputable def s_below (N : Nat) : List DV → List DObj → Res := specG rBel (fun x => (okB N x, .tup [])) fun x hp => TD.put hp x.n x.m (outB N x)
theorem s_below_at (N : Nat) {hp t : List DObj} {n m : Nat} {v : List Cel} (k : Three hp n m) (l : Fls) (at_ : Int) (ah : List UInt8) : s_below N [.agg (cFls l), .int .i64 at_, .str ah, cAdd n] (TD.put hp n m v ++ t) = ⟨okB N ⟨n, m, v, l, at_, ah⟩, .tup [], TD.put hp n m (outB N ⟨n, m, v, l, at_, ah⟩) ++ t⟩ := by
  have := specG_at (f := fun x : rB => (okB N x, DV.tup [])) (out := fun x hp => TD.put hp x.n x.m (outB N x)) rBel_u (x := ⟨n, m, v, l, at_, ah⟩) (a := [.agg (cFls l), .int .i64 at_, .str ah, cAdd n]) (hp := TD.put hp n m v ++ t) ⟨rfl, Duo.put_is k⟩
  unfold s_below
  rw [this, Duo.put_put k]

section
variable {hp g t : List DObj} {n m : Nat} {v : List Cel} {b o o' : DObj}
theorem TDj_get : (TD.put hp n m v ++ (b :: (g ++ (o :: t))))[hp.length + (g.length + 1)]? = some o := by
  have := Duo.get_bt (T := TD) (hp := hp) (n := n) (m := m) (v := v) (t := b :: g) (o := o) (t' := t)
  simpa using this
theorem TDj_set : (TD.put hp n m v ++ (b :: (g ++ (o :: t)))).set (hp.length + (g.length + 1)) o' = TD.put hp n m v ++ (b :: (g ++ (o' :: t))) := by
  have := Duo.set_bt (T := TD) (hp := hp) (n := n) (m := m) (v := v) (t := b :: g) (o := o) (o' := o') (t' := t)
  simpa using this
end
theorem preC_pre (p q : List UInt8) (c : Cel) : preC p (preC q c) = preC (p ++ q) c := by simp [preC]
theorem ok_below : ∀ N, OkH Try.prog 42 (s_below N)
  | 0 => fun a hp h => by
    exfalso
    unfold s_below specG at h
    split at h
    · obtain ⟨⟨_, h1, h2, _⟩, _⟩ := h
      omega
    · exact h.elim
  | N + 1 => by
    refine OkH.mkGI (ps := [(38, s_kept), (39, s_calls), (30, s_values)]) (hs := [(43, s_add), (42, s_below N)]) (is := [(47, s_kept1), (48, s_calls1)]) ⟨ok_mem_kept, ok_mem_calls, ok_mem_values, trivial⟩ ⟨ok_add, ok_below N, trivial⟩ ⟨okI_kept1, okI_calls1, trivial⟩ m_mem_below (fun x a hp h => by rw [h.1]; rfl) fun x a hp h hpre => ?_
    obtain ⟨n, m, v, l, at_, ah⟩ := x
    obtain ⟨rfl, hi⟩ := h
    obtain ⟨⟨hw, h0, h1, h2, h3, h4⟩, h5, h6⟩ := hpre
    simp only at hi h0 h1 h2 h4 h5 h6 hw
    dsimp only
    have k := Duo.is_three hi
    obtain ⟨i, rfl⟩ : ∃ i : Nat, at_ = i := ⟨at_.toNat, by omega⟩
    have hg : l.fs[i]? = some (flowAt l i) := by
      have hl : i < l.fs.length := by omega
      simp [flowAt, hl]
    have hcf : capF (flowAt l i) := hw.1.2 _ (List.mem_of_getElem? hg)
    have hsub : ∀ q ∈ (flowAt l i).eqs.filter (callQ i), (startN l N q.node).length ≤ 1000 := fun q hq => Nat.le_trans (sub_len hq) h4
    have hcq : ∀ q ∈ (flowAt l i).eqs, capQ q := fun q hq => capQ_of hw hq
    generalize hres : outB (N + 1) ⟨n, m, v, l, i, ah⟩ = res
    have hres2 := hres
    simp only [outB, startN, List.map_append, List.map_map, List.map_flatMap] at hres2
    have hrl : res.length ≤ 1000 := by rw [← hres]; simp only [outB, List.length_append, List.length_map]; omega
    generalize hf : flowAt l i = f at hg hcf hsub hcq hres2
    have hkl : i < l.fs.length := by omega
    have q1 : (Orc.ofI [(38, s_kept), (39, s_calls), (30, s_values)] [(43, s_add), (42, s_below N)] [(47, s_kept1), (48, s_calls1)]).i 47 [.ref (cFl f)] = (True, (f.eqs.filter fbyQ).map encQ) := by
      have := s_kept1_at f
      rw [eq_true hcf] at this
      exact this
    have q2 : (Orc.ofI [(38, s_kept), (39, s_calls), (30, s_values)] [(43, s_add), (42, s_below N)] [(47, s_kept1), (48, s_calls1)]).i 48 [.ref (cFls l), .ref [.int .i64 i]] = (True, (f.eqs.filter (callQ i)).map encQ) := by
      have := s_calls1_at l i
      rw [hf, eq_true (show okAt (l, (i : Int)) from ⟨by simp only; omega, by simp only; omega, by have := hw.1.1; simp only [capLen]; omega, hw.1.2⟩)] at this
      exact this
    have e0 : (⟨frameFrom 0 [.agg (cFls l), .int .i64 i, .str ah, cAdd n], hp⟩ : DS) = (⟨frameFrom 0 [.agg (cFls l), .int .i64 i, .str ah, cAdd n], TD.put hp n m v ++ []⟩ : DS) := by rw [Duo.is_put hi, List.append_nil]
    rw [e0]
    
    (have hcondQ := Bool.and_self; refine Todo.of ?_); (repeat' (first | ((with_reducible refine Todo.to ?_); (repeat (first | (simp only [↓rP, rT, rU, eI, eU, eB, eS, eBs, eL, eA, buildCells, sepsD, sepB, hdl, dvalX, DOp.kind, dval, frameFrom, dBin, dInt, dStr, dBeq, dUn, dLoad, cellsAt, retV, retL, DR.val, fzT, fzVs, fzV, fz1, DV.immB, IntKind.bits, dCallP, viewVs, viewV, view1, capVL, capV, viewL, noMemV, noMem, elemsOf, dAppend, dAppz, dStore, DV.one, alive, freezeAt, fzLL, fzL, bRow, bU, cellsOf, setFrom, DV.isU, lenMax, lenCap, Nat.reduceEqDiff, Nat.reduceAdd, ↓reduceIte, reduceCtorEq, Nat.reduceSub, Int.reduceToNat, Int.reducePow, Nat.reducePow, Int.reduceLE, Int.reduceLT, Nat.reduceLeDiff, Nat.reduceLT, Int.reduceBEq, Int.reduceBNe, Int.reduceEq, Int.reduceNe, Int.reduceAdd, Int.reduceSub, Int.reduceMul, Int.reduceNeg, Int.reduceTDiv, Int.reduceTMod, Int.reduceMod, Int.reduceDiv, Nat.reduceMul, forall_const, implies_true, d_mem_below, s_kept_at, s_calls_at, s_values_at, eCel, eCels, eCloGet, eCloSame, eFl, eFls, eIls, ePl, eRCels, eRIls, eRS, eRows, eSs, eTrn, eY, sls_len, ils_len, ils_rowsT, sls_rowsT, sls_tk0, ils_tk0, cel_tk0, cel_rowsT, ofI_p, ofI_h, only_normal, List.append_assoc, Nat.add_zero, Duo.put_len, Duo.put_lenA, endT_normal, endT_ret, dSlice, dBound, List.length_drop, Nat.mul_one, Duo.get_b, List.length_map, map_getD cFl hg, hkl , hcondQ]) | (simp (disch := omega) only [i64_id, u64_id, u8_id, getD_map'])))) | ((with_reducible refine And.intro ?_ ?_); · first | trivial | omega | (simp; done) | (simp; omega)) | ((first | ((with_reducible refine dwp_condI (t := ?_) ?_ (fun hcQ => ?_) (fun hcQ => ?_)); rotate_left; · rfl) | ((with_reducible refine dops_guardI (t := ?_) ?_ (fun hcQ => ?_) (fun hcQ => ?_)); rotate_left; · rfl)) <;> (have hn := hcQ; have hcondQ := hcQ) <;> (try simp only [decide_eq_true_eq, decide_eq_false_iff_not, beq_iff_eq, bne_iff_ne, ne_eq, Bool.and_eq_true, Bool.or_eq_true, Bool.not_eq_true, Bool.not_eq_false, beq_eq_false_iff_ne, bne_eq_false_iff_eq, Bool.not_eq_true', Bool.not_eq_false', Int.ofNat_lt, Int.ofNat_le, Bool.or_eq_false_iff, Bool.and_eq_false_imp, Decidable.not_not, gt_iff_lt, ge_iff_le] at hn) <;> (try (exfalso; omega)) <;> (refine Todo.of ?_)) | (((with_reducible refine dwp_condA ?_ ?_ ?_); · rfl) <;> (refine Todo.of ?_)))) <;> (try (first | (with_reducible rfl) | exact Nat.le_refl _ | exact Int.le_refl _ | assumption | omega))
    refine dwp_range (f.eqs.filter fbyQ) encQ (fun _ (a : List Cel × List DObj) => TD.put hp n m a.1 ++ (⟨.loc, 1, [[cAdd n]]⟩ :: a.2)) (fun j r a => a.1 ++ (r.map (preC ah ∘ celQ) ++ (f.eqs.filter (callQ i)).flatMap fun q => (startN l N q.node).map (preC ah ∘ preC (name0 q ++ [47]))) = res) (v, [])
      [(1, .int .i64 i), (4, .ref (cFls l)), (6, .ref [.str ah]), (7, .ptr hp.length 1 0 0), (9, .undef), (32, .undef)] trivial rfl rfl q1 rfl (by simp only [cut_some, cut_none, List.map_cons, List.map_nil, get_cons, Nk.get_nil, Nat.reduceEqDiff, ↓reduceIte, Nat.succ_ne_self, DV.cut, DV.inB, DObj.cut, List.take_nil, List.take_zero, if_true, Nat.zero_ne_one, Nat.one_ne_zero, DV.inBL, Bool.and_true, Bool.true_and, reduceCtorEq, Nat.zero_lt_one, decide_true, decide_false, Nat.reduceLT, List.take_succ_cons, Int.natCast_add, Int.natCast_one, List.length_append, List.length_cons, List.length_nil, Nat.zero_add] <;> rfl) ?_ (fun j x r a hx hd hr => ⟨rfl, ?_⟩) (fun j a ej hr => ?_)
    · exact hres2
    · obtain ⟨w, g⟩ := a
      simp only at hr ⊢
      have hxm := List.mem_filter.1 (List.mem_of_getElem? hx)
      have hw2 := hcq x hxm.1
      have hnl := name0_le hw2
      have hil : x.init.length ≤ 17592186044416 := by have := hw2.1; simp only [capLen] at this; omega
      have hne : 0 < x.names.length := by
        have := hxm.2
        simp only [fbyQ, Bool.and_eq_true, decide_eq_true_eq] at this; exact this.2
      have b1 : (sls x.names).getD 0 [] = [.str (name0 x)] := sls_getD hne
      have ev := s_values_at x.init
      rw [eq_true hil] at ev
      simp only [capLen] at hnl
      have hwl : w.length ≤ 1000 := by rw [← hr] at hrl; simp only [List.length_append] at hrl; omega
      have ea : ∀ t, s_add [.agg [.str (ah ++ name0 x), .sl (ils x.init)], .ptr n 1 0 0] (TD.put hp n m w ++ t) = ⟨True, .tup [], TD.put hp n m (w ++ [preC ah (celQ x)]) ++ t⟩ := fun t => by
        have := s_add_at (t := t) (v := w) k (preC ah (celQ x))
        rw [eq_true hwl] at this
        exact this
      (have hcondQ := Bool.and_self; refine Todo.of ?_); (repeat' (first | ((with_reducible refine Todo.to ?_); (repeat (first | (simp only [↓rP, rT, rU, eI, eU, eB, eS, eBs, eL, eA, buildCells, sepsD, sepB, hdl, dvalX, DOp.kind, dval, frameFrom, dBin, dInt, dStr, dBeq, dUn, dLoad, cellsAt, retV, retL, DR.val, fzT, fzVs, fzV, fz1, DV.immB, IntKind.bits, dCallP, viewVs, viewV, view1, capVL, capV, viewL, noMemV, noMem, elemsOf, dAppend, dAppz, dStore, DV.one, alive, freezeAt, fzLL, fzL, bRow, bU, cellsOf, setFrom, DV.isU, lenMax, lenCap, Nat.reduceEqDiff, Nat.reduceAdd, ↓reduceIte, reduceCtorEq, Nat.reduceSub, Int.reduceToNat, Int.reducePow, Nat.reducePow, Int.reduceLE, Int.reduceLT, Nat.reduceLeDiff, Nat.reduceLT, Int.reduceBEq, Int.reduceBNe, Int.reduceEq, Int.reduceNe, Int.reduceAdd, Int.reduceSub, Int.reduceMul, Int.reduceNeg, Int.reduceTDiv, Int.reduceTMod, Int.reduceMod, Int.reduceDiv, Nat.reduceMul, forall_const, implies_true, d_mem_below, s_kept_at, s_calls_at, s_values_at, eCel, eCels, eCloGet, eCloSame, eFl, eFls, eIls, ePl, eRCels, eRIls, eRS, eRows, eSs, eTrn, eY, sls_len, ils_len, ils_rowsT, sls_rowsT, sls_tk0, ils_tk0, cel_tk0, cel_rowsT, ofI_p, ofI_h, only_normal, List.append_assoc, Nat.add_zero, Duo.put_len, Duo.put_lenA, endT_normal, endT_ret, dSlice, dBound, List.length_drop, Nat.mul_one, Duo.get_b, TDj_get, TDj_set, encQ, List.zip_cons_cons, List.zip_nil_left, List.zip_nil_right, b1, sls_len, hne, strMax, ev, ea , hcondQ]) | (simp (disch := omega) only [i64_id, u64_id, u8_id, getD_map'])))) | ((with_reducible refine And.intro ?_ ?_); · first | trivial | omega | (simp; done) | (simp; omega)) | ((first | ((with_reducible refine dwp_condI (t := ?_) ?_ (fun hcQ => ?_) (fun hcQ => ?_)); rotate_left; · rfl) | ((with_reducible refine dops_guardI (t := ?_) ?_ (fun hcQ => ?_) (fun hcQ => ?_)); rotate_left; · rfl)) <;> (have hn := hcQ; have hcondQ := hcQ) <;> (try simp only [decide_eq_true_eq, decide_eq_false_iff_not, beq_iff_eq, bne_iff_ne, ne_eq, Bool.and_eq_true, Bool.or_eq_true, Bool.not_eq_true, Bool.not_eq_false, beq_eq_false_iff_ne, bne_eq_false_iff_eq, Bool.not_eq_true', Bool.not_eq_false', Int.ofNat_lt, Int.ofNat_le, Bool.or_eq_false_iff, Bool.and_eq_false_imp, Decidable.not_not, gt_iff_lt, ge_iff_le] at hn) <;> (try (exfalso; omega)) <;> (refine Todo.of ?_)) | (((with_reducible refine dwp_condA ?_ ?_ ?_); · rfl) <;> (refine Todo.of ?_)))) <;> (try (first | (with_reducible rfl) | exact Nat.le_refl _ | exact Int.le_refl _ | assumption | omega))
      exact ⟨(w ++ [preC ah (celQ x)], g ++ [_]), rfl, by rw [← hr]; simp⟩
    · obtain ⟨w, g⟩ := a
      simp only [List.map_nil, List.nil_append] at hr ⊢
      (have hcondQ := Bool.and_self; refine Todo.of ?_); (repeat' (first | ((with_reducible refine Todo.to ?_); (repeat (first | (simp only [↓rP, rT, rU, eI, eU, eB, eS, eBs, eL, eA, buildCells, sepsD, sepB, hdl, dvalX, DOp.kind, dval, frameFrom, dBin, dInt, dStr, dBeq, dUn, dLoad, cellsAt, retV, retL, DR.val, fzT, fzVs, fzV, fz1, DV.immB, IntKind.bits, dCallP, viewVs, viewV, view1, capVL, capV, viewL, noMemV, noMem, elemsOf, dAppend, dAppz, dStore, DV.one, alive, freezeAt, fzLL, fzL, bRow, bU, cellsOf, setFrom, DV.isU, lenMax, lenCap, Nat.reduceEqDiff, Nat.reduceAdd, ↓reduceIte, reduceCtorEq, Nat.reduceSub, Int.reduceToNat, Int.reducePow, Nat.reducePow, Int.reduceLE, Int.reduceLT, Nat.reduceLeDiff, Nat.reduceLT, Int.reduceBEq, Int.reduceBNe, Int.reduceEq, Int.reduceNe, Int.reduceAdd, Int.reduceSub, Int.reduceMul, Int.reduceNeg, Int.reduceTDiv, Int.reduceTMod, Int.reduceMod, Int.reduceDiv, Nat.reduceMul, forall_const, implies_true, d_mem_below, s_kept_at, s_calls_at, s_values_at, eCel, eCels, eCloGet, eCloSame, eFl, eFls, eIls, ePl, eRCels, eRIls, eRS, eRows, eSs, eTrn, eY, sls_len, ils_len, ils_rowsT, sls_rowsT, sls_tk0, ils_tk0, cel_tk0, cel_rowsT, ofI_p, ofI_h, only_normal, List.append_assoc, Nat.add_zero, Duo.put_len, Duo.put_lenA, endT_normal, endT_ret, dSlice, dBound, List.length_drop, Nat.mul_one, Duo.get_b , hcondQ]) | (simp (disch := omega) only [i64_id, u64_id, u8_id, getD_map'])))) | ((with_reducible refine And.intro ?_ ?_); · first | trivial | omega | (simp; done) | (simp; omega)) | ((first | ((with_reducible refine dwp_condI (t := ?_) ?_ (fun hcQ => ?_) (fun hcQ => ?_)); rotate_left; · rfl) | ((with_reducible refine dops_guardI (t := ?_) ?_ (fun hcQ => ?_) (fun hcQ => ?_)); rotate_left; · rfl)) <;> (have hn := hcQ; have hcondQ := hcQ) <;> (try simp only [decide_eq_true_eq, decide_eq_false_iff_not, beq_iff_eq, bne_iff_ne, ne_eq, Bool.and_eq_true, Bool.or_eq_true, Bool.not_eq_true, Bool.not_eq_false, beq_eq_false_iff_ne, bne_eq_false_iff_eq, Bool.not_eq_true', Bool.not_eq_false', Int.ofNat_lt, Int.ofNat_le, Bool.or_eq_false_iff, Bool.and_eq_false_imp, Decidable.not_not, gt_iff_lt, ge_iff_le] at hn) <;> (try (exfalso; omega)) <;> (refine Todo.of ?_)) | (((with_reducible refine dwp_condA ?_ ?_ ?_); · rfl) <;> (refine Todo.of ?_)))) <;> (try (first | (with_reducible rfl) | exact Nat.le_refl _ | exact Int.le_refl _ | assumption | omega))
      refine dwp_range (f.eqs.filter (callQ i)) encQ (fun _ (a : List Cel × List DObj) => TD.put hp n m a.1 ++ (⟨.loc, 1, [[cAdd n]]⟩ :: a.2)) (fun j r a => a.1 ++ (r.flatMap fun q => (startN l N q.node).map (preC ah ∘ preC (name0 q ++ [47]))) = res) (w, g)
        [(4, .ref (cFls l)), (6, .ref [.str ah]), (7, .ptr hp.length 1 0 0)] trivial rfl rfl q2 rfl (by simp only [cut_some, cut_none, List.map_cons, List.map_nil, get_cons, Nk.get_nil, Nat.reduceEqDiff, ↓reduceIte, Nat.succ_ne_self, DV.cut, DV.inB, DObj.cut, List.take_nil, List.take_zero, if_true, Nat.zero_ne_one, Nat.one_ne_zero, DV.inBL, Bool.and_true, Bool.true_and, reduceCtorEq, Nat.zero_lt_one, decide_true, decide_false, Nat.reduceLT, List.take_succ_cons, Int.natCast_add, Int.natCast_one, List.length_append, List.length_cons, List.length_nil, Nat.zero_add] <;> rfl) hr (fun j x r a hx hd hr => ⟨rfl, ?_⟩) (fun j a ej hr => ?_)
      · obtain ⟨w, g⟩ := a
        simp only [List.flatMap_cons] at hr ⊢
        have hxm := List.mem_filter.1 (List.mem_of_getElem? hx)
        have hw2 := hcq x hxm.1
        have hnl := name0_le hw2
        have hq := hxm.2
        simp only [callQ, Bool.and_eq_true, decide_eq_true_eq] at hq
        obtain ⟨_, hne, n0, n1⟩ := hq
        have b1 : (sls x.names).getD 0 [] = [.str (name0 x)] := sls_getD hne
        simp only [capLen] at hnl
        have hwl : w.length + (startN l N x.node).length ≤ 1000 := by rw [← hr] at hrl; simp only [List.length_append, List.length_map] at hrl; omega
        have ea : ∀ t, s_below N [.agg (cFls l), .int .i64 x.node, .str (ah ++ (name0 x ++ [47])), cAdd n] (TD.put hp n m w ++ t) = ⟨True, .tup [], TD.put hp n m (w ++ (startN l N x.node).map (preC ah ∘ preC (name0 x ++ [47]))) ++ t⟩ := fun t => by
          have := s_below_at N (t := t) (v := w) k l x.node (ah ++ (name0 x ++ [47]))
          rw [eq_true (show okB N ⟨n, m, w, l, x.node, ah ++ (name0 x ++ [47])⟩ from ⟨⟨hw, n0, by simp only; omega, by simp only; omega, by omega, hsub x (List.mem_of_getElem? hx)⟩, hwl, by simp only [List.length_append, List.length_cons, List.length_nil]; omega⟩)] at this
          rw [this]
          have e9 : (preC ah ∘ preC (name0 x ++ [47])) = preC (ah ++ (name0 x ++ [47])) := funext fun c => preC_pre ah (name0 x ++ [47]) c
          rw [e9]
          rfl
        (have hcondQ := Bool.and_self; refine Todo.of ?_); (repeat' (first | ((with_reducible refine Todo.to ?_); (repeat (first | (simp only [↓rP, rT, rU, eI, eU, eB, eS, eBs, eL, eA, buildCells, sepsD, sepB, hdl, dvalX, DOp.kind, dval, frameFrom, dBin, dInt, dStr, dBeq, dUn, dLoad, cellsAt, retV, retL, DR.val, fzT, fzVs, fzV, fz1, DV.immB, IntKind.bits, dCallP, viewVs, viewV, view1, capVL, capV, viewL, noMemV, noMem, elemsOf, dAppend, dAppz, dStore, DV.one, alive, freezeAt, fzLL, fzL, bRow, bU, cellsOf, setFrom, DV.isU, lenMax, lenCap, Nat.reduceEqDiff, Nat.reduceAdd, ↓reduceIte, reduceCtorEq, Nat.reduceSub, Int.reduceToNat, Int.reducePow, Nat.reducePow, Int.reduceLE, Int.reduceLT, Nat.reduceLeDiff, Nat.reduceLT, Int.reduceBEq, Int.reduceBNe, Int.reduceEq, Int.reduceNe, Int.reduceAdd, Int.reduceSub, Int.reduceMul, Int.reduceNeg, Int.reduceTDiv, Int.reduceTMod, Int.reduceMod, Int.reduceDiv, Nat.reduceMul, forall_const, implies_true, d_mem_below, s_kept_at, s_calls_at, s_values_at, eCel, eCels, eCloGet, eCloSame, eFl, eFls, eIls, ePl, eRCels, eRIls, eRS, eRows, eSs, eTrn, eY, sls_len, ils_len, ils_rowsT, sls_rowsT, sls_tk0, ils_tk0, cel_tk0, cel_rowsT, ofI_p, ofI_h, only_normal, List.append_assoc, Nat.add_zero, Duo.put_len, Duo.put_lenA, endT_normal, endT_ret, dSlice, dBound, List.length_drop, Nat.mul_one, Duo.get_b, TDj_get, TDj_set, encQ, List.zip_cons_cons, List.zip_nil_left, List.zip_nil_right, b1, sls_len, hne, strMax, ea , hcondQ]) | (simp (disch := omega) only [i64_id, u64_id, u8_id, getD_map'])))) | ((with_reducible refine And.intro ?_ ?_); · first | trivial | omega | (simp; done) | (simp; omega)) | ((first | ((with_reducible refine dwp_condI (t := ?_) ?_ (fun hcQ => ?_) (fun hcQ => ?_)); rotate_left; · rfl) | ((with_reducible refine dops_guardI (t := ?_) ?_ (fun hcQ => ?_) (fun hcQ => ?_)); rotate_left; · rfl)) <;> (have hn := hcQ; have hcondQ := hcQ) <;> (try simp only [decide_eq_true_eq, decide_eq_false_iff_not, beq_iff_eq, bne_iff_ne, ne_eq, Bool.and_eq_true, Bool.or_eq_true, Bool.not_eq_true, Bool.not_eq_false, beq_eq_false_iff_ne, bne_eq_false_iff_eq, Bool.not_eq_true', Bool.not_eq_false', Int.ofNat_lt, Int.ofNat_le, Bool.or_eq_false_iff, Bool.and_eq_false_imp, Decidable.not_not, gt_iff_lt, ge_iff_le] at hn) <;> (try (exfalso; omega)) <;> (refine Todo.of ?_)) | (((with_reducible refine dwp_condA ?_ ?_ ?_); · rfl) <;> (refine Todo.of ?_)))) <;> (try (first | (with_reducible rfl) | exact Nat.le_refl _ | exact Int.le_refl _ | assumption | omega))
        exact ⟨(w ++ (startN l N x.node).map (preC ah ∘ preC (name0 x ++ [47])), g ++ [_]), rfl, by rw [← hr]; simp⟩
      · obtain ⟨w, g⟩ := a
        simp only [List.flatMap_nil, List.append_nil] at hr
        subst hr
        (have hcondQ := Bool.and_self; refine Todo.of ?_); (repeat' (first | ((with_reducible refine Todo.to ?_); (repeat (first | (simp only [↓rP, rT, rU, eI, eU, eB, eS, eBs, eL, eA, buildCells, sepsD, sepB, hdl, dvalX, DOp.kind, dval, frameFrom, dBin, dInt, dStr, dBeq, dUn, dLoad, cellsAt, retV, retL, DR.val, fzT, fzVs, fzV, fz1, DV.immB, IntKind.bits, dCallP, viewVs, viewV, view1, capVL, capV, viewL, noMemV, noMem, elemsOf, dAppend, dAppz, dStore, DV.one, alive, freezeAt, fzLL, fzL, bRow, bU, cellsOf, setFrom, DV.isU, lenMax, lenCap, Nat.reduceEqDiff, Nat.reduceAdd, ↓reduceIte, reduceCtorEq, Nat.reduceSub, Int.reduceToNat, Int.reducePow, Nat.reducePow, Int.reduceLE, Int.reduceLT, Nat.reduceLeDiff, Nat.reduceLT, Int.reduceBEq, Int.reduceBNe, Int.reduceEq, Int.reduceNe, Int.reduceAdd, Int.reduceSub, Int.reduceMul, Int.reduceNeg, Int.reduceTDiv, Int.reduceTMod, Int.reduceMod, Int.reduceDiv, Nat.reduceMul, forall_const, implies_true, d_mem_below, s_kept_at, s_calls_at, s_values_at, eCel, eCels, eCloGet, eCloSame, eFl, eFls, eIls, ePl, eRCels, eRIls, eRS, eRows, eSs, eTrn, eY, sls_len, ils_len, ils_rowsT, sls_rowsT, sls_tk0, ils_tk0, cel_tk0, cel_rowsT, ofI_p, ofI_h, only_normal, List.append_assoc, Nat.add_zero, Duo.put_len, Duo.put_lenA, endT_normal, endT_ret, dSlice, dBound, List.length_drop, Nat.mul_one, Duo.get_b, List.length_map, Nat.lt_irrefl, Int.lt_irrefl, Int.toNat_natCast, lenMax, lenCap, endC_normal, endC_ret , hcondQ]) | (simp (disch := omega) only [i64_id, u64_id, u8_id, getD_map'])))) | ((with_reducible refine And.intro ?_ ?_); · first | trivial | omega | (simp; done) | (simp; omega)) | ((first | ((with_reducible refine dwp_condI (t := ?_) ?_ (fun hcQ => ?_) (fun hcQ => ?_)); rotate_left; · rfl) | ((with_reducible refine dops_guardI (t := ?_) ?_ (fun hcQ => ?_) (fun hcQ => ?_)); rotate_left; · rfl)) <;> (have hn := hcQ; have hcondQ := hcQ) <;> (try simp only [decide_eq_true_eq, decide_eq_false_iff_not, beq_iff_eq, bne_iff_ne, ne_eq, Bool.and_eq_true, Bool.or_eq_true, Bool.not_eq_true, Bool.not_eq_false, beq_eq_false_iff_ne, bne_eq_false_iff_eq, Bool.not_eq_true', Bool.not_eq_false', Int.ofNat_lt, Int.ofNat_le, Bool.or_eq_false_iff, Bool.and_eq_false_imp, Decidable.not_not, gt_iff_lt, ge_iff_le] at hn) <;> (try (exfalso; omega)) <;> (refine Todo.of ?_)) | (((with_reducible refine dwp_condA ?_ ?_ ?_); · rfl) <;> (refine Todo.of ?_)))) <;> (try (first | (with_reducible rfl) | exact Nat.le_refl _ | exact Int.le_refl _ | assumption | omega))
        trace_state
        exact Duo.put_end (by simp [DObj.cut, DV.cut, DV.inB, k.2.1]) cut_imm
end Go.Proofs.Ytlbemkkfgijljaa
