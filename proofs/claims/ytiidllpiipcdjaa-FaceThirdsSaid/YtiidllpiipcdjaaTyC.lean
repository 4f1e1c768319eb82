/- Ports, slots, images; which images have the same inputs and outputs. -/
import Derived.Test.YtiidllpiipcdjaaTyB
set_option linter.all false
set_option maxRecDepth 20000
namespace Go.Proofs.Ytiidllpiipcdjaa
open Go.Nk

/-- Numbers, one behind the other. -/
def ils (l : List Int) : List (List DV) := l.map fun n => [.int .i64 n]
theorem ils_len (l : List Int) : (ils l).length = l.length := by simp [ils]
theorem ils_inj {l l' : List Int} (h : ils l = ils l') : l = l' := by
  have : ∀ x y : Int, [DV.int .i64 x] = [.int .i64 y] → x = y := fun x y h => by simpa using h
  exact List.map_inj_right (fun x y => this x y) |>.1 h
theorem ils_getD {l : List Int} {i : Nat} (h : i < l.length) : (ils l).getD i [] = [.int .i64 (l.getD i 0)] := by
  simp [ils, h]

/-- A port. -/
structure Prt where
  name : List UInt8
  ty : Ty
@[reducible] def cPrt (p : Prt) : List DV := [.str p.name, .int .i64 p.ty.k, .int .i64 p.ty.e, .int .i64 p.ty.n]
theorem cPrt_inj : ∀ x y, cPrt x = cPrt y → x = y := fun x y h => by
  obtain ⟨n, k, e, m⟩ := x; obtain ⟨n', k', e', m'⟩ := y
  simp only [cPrt, List.cons.injEq, DV.str.injEq, DV.int.injEq, true_and, and_true] at h
  obtain ⟨rfl, rfl, rfl, rfl⟩ := h
  rfl
instance : Inhabited Prt := ⟨⟨[], default⟩⟩
theorem prt_getD {l : List Prt} {j : Nat} (h : j < l.length) : (l.map cPrt).getD j [] = cPrt (l.getD j default) := by simp [h]
abbrev ePrts : List Prt → DV := eL cPrt
theorem inj_Prts : Inj ePrts := inj_L cPrt_inj

/-- What is kept. -/
structure Slt where
  path : List UInt8
  ty : Ty
  at_ : Int
  ini : List Int
@[reducible] def cSlt (s : Slt) : List DV := [.str s.path, .int .i64 s.ty.k, .int .i64 s.ty.e, .int .i64 s.ty.n, .int .i64 s.at_, .sl (ils s.ini)]
theorem cSlt_inj : ∀ x y, cSlt x = cSlt y → x = y := fun x y h => by
  obtain ⟨n, ⟨k, e, m⟩, a, i⟩ := x; obtain ⟨n', ⟨k', e', m'⟩, a', i'⟩ := y
  simp only [cSlt, List.cons.injEq, DV.str.injEq, DV.int.injEq, DV.sl.injEq, true_and, and_true] at h
  obtain ⟨rfl, rfl, rfl, rfl, rfl, h⟩ := h
  rw [ils_inj h]
instance : Inhabited Slt := ⟨⟨[], default, 0, []⟩⟩

/-- An instruction. -/
structure In4 where
  o : Int
  a : Int
  b : Int
  n : Int
@[reducible] def cIn4 (x : In4) : List DV := [.int .i64 x.o, .int .i64 x.a, .int .i64 x.b, .int .i64 x.n]
theorem cIn4_inj : ∀ x y, cIn4 x = cIn4 y → x = y := fun x y h => by
  cases x; cases y
  simp only [cIn4, List.cons.injEq, DV.int.injEq, true_and, and_true] at h
  obtain ⟨rfl, rfl, rfl, rfl⟩ := h
  rfl

/-- An image. -/
structure Img where
  en : List En
  ins : List Prt
  outs : List Prt
  slots : List Slt
  loc : List Int
  code : List In4
@[reducible] def cImg (x : Img) : List DV := [.sl (x.en.map cEn), .sl (x.ins.map cPrt), .sl (x.outs.map cPrt), .sl (x.slots.map cSlt), .sl (ils x.loc), .sl (x.code.map cIn4)]
theorem cImg_inj : ∀ x y, cImg x = cImg y → x = y := fun x y h => by
  cases x; cases y
  simp only [cImg, List.cons.injEq, DV.sl.injEq, and_true] at h
  obtain ⟨h1, h2, h3, h4, h5, h6⟩ := h
  rw [map_inj cEn_inj _ _ h1, map_inj cPrt_inj _ _ h2, map_inj cPrt_inj _ _ h3, map_inj cSlt_inj _ _ h4, ils_inj h5, map_inj cIn4_inj _ _ h6]
abbrev eImg : Img → DV := eA cImg
theorem inj_Img : Inj eImg := inj_A cImg_inj

def portF (a : List En) (p : Prt) (b : List En) (q : Prt) : Bool := decide (p.name = q.name) && alikeF a p.ty b q.ty
def allP (a : List En) (p : List Prt) (b : List En) (q : List Prt) : Bool := (p.zip q).all fun x => portF a x.1 b x.2
def portsF (a : List En) (p : List Prt) (b : List En) (q : List Prt) : Bool := p.length == q.length && allP a p b q
theorem allP_take {a b : List En} {p q : List Prt} {k : Nat} (h1 : k < p.length) (h2 : k < q.length) (h : ((p.zip q).take k).all (fun x => portF a x.1 b x.2) = true) (e : portF a (p.getD k default) b (q.getD k default) = true) :
    ((p.zip q).take (k + 1)).all (fun x => portF a x.1 b x.2) = true := by
  have hz : (p.zip q)[k]? = some (p[k], q[k]) := List.getElem?_zip_eq_some.2 ⟨by simp [h1], by simp [h2]⟩
  have e1 : p.getD k default = p[k] := by simp [h1]
  have e2 : q.getD k default = q[k] := by simp [h2]
  rw [List.take_add_one, hz, List.all_append, h]
  rw [e1, e2] at e
  simp [e]
theorem allP_not {a b : List En} {p q : List Prt} {k : Nat} (h1 : k < p.length) (h2 : k < q.length) (e : portF a (p.getD k default) b (q.getD k default) = false) : allP a p b q = false := by
  unfold allP
  rw [List.all_eq_false]
  refine ⟨(p.getD k default, q.getD k default), ?_, by simp only [e]; simp⟩
  rw [List.mem_iff_getElem]
  exact ⟨k, by simp; omega, by simp [h1, h2]⟩

noncomputable def s_ports : List DV → Prop × DV := spec4 eEns ePrts eEns ePrts fun a p b q => (fewEn a ∧ fewEn b ∧ p.length ≤ 1000000000, .bool (portsF a p b q))
theorem s_ports_at (a : List En) (p : List Prt) (b : List En) (q : List Prt) : s_ports [.sl (a.map cEn), .sl (p.map cPrt), .sl (b.map cEn), .sl (q.map cPrt)] = (fewEn a ∧ fewEn b ∧ p.length ≤ 1000000000, .bool (portsF a p b q)) := spec4_at inj_Ens inj_Prts inj_Ens inj_Prts _ _ _ _ _
theorem ok_ports : OkP Try.prog 32 s_ports := by
  refine OkP.mk4 (ps := [(49, s_Alike)]) (hs := []) ⟨ok_refAlike, trivial⟩ trivial m_noriaref36_ports fun a p b q h => ?_
  obtain ⟨ha, hb, hl⟩ := h
  by_cases c : p.length = q.length
  rotate_left
  · have c1 : ((p.length : Int) != (q.length : Int)) = true := by simp; omega
    have c2 : portsF a p b q = false := by simp [portsF, c]
    (have hcond := Bool.and_self; refine Todo.of ?_; repeat' (first | ((with_reducible refine Todo.to ?_); try simp only [↓rP, rT, rU, eI, eU, eB, eS, eBs, eL, eA, buildCells, sepsD, sepB, hdl, dvalX, DOp.kind, dval, frameFrom, dBin, dInt, dStr, dBeq, dUn, dLoad, cellsAt, retV, retL, DR.val, fzT, fzVs, fzV, fz1, DV.immB, IntKind.bits, dCallP, viewVs, viewV, view1, capVL, capV, viewL, noMemV, noMem, elemsOf, dAppend, dAppz, dStore, DV.one, alive, freezeAt, fzLL, fzL, bRow, bU, cellsOf, setFrom, DV.isU, lenMax, Nat.reduceEqDiff, Nat.reduceAdd, ↓reduceIte, reduceCtorEq, Nat.reduceSub, Int.reduceToNat, Int.reducePow, Nat.reducePow, Int.reduceLE, Int.reduceLT, Nat.reduceLeDiff, Nat.reduceLT, Int.reduceBEq, Int.reduceBNe, Int.reduceEq, Int.reduceNe, Int.reduceAdd, Int.reduceSub, Int.reduceMul, Int.reduceNeg, Int.reduceTDiv, Int.reduceTMod, Int.reduceMod, Int.reduceDiv, Nat.reduceMul, forall_const, implies_true, d_noriaref36_ports, List.length_map, c1, c2, hcond]) | ((with_reducible refine And.intro ?_ ?_); · first | trivial | omega | (simp; done) | (simp; omega)) | ((first | ((with_reducible refine dwp_condI (t := ?_) ?_ (fun hc => ?_) (fun hc => ?_)); rotate_left; · rfl) | ((with_reducible refine dops_guardI (t := ?_) ?_ (fun hc => ?_) (fun hc => ?_)); rotate_left; · rfl)) <;> (have hn := hc; have hcond := hc) <;> (try simp only [decide_eq_true_eq, decide_eq_false_iff_not, beq_iff_eq, bne_iff_ne, ne_eq, Bool.and_eq_true, Bool.or_eq_true, Bool.not_eq_true, Bool.not_eq_false, beq_eq_false_iff_ne, bne_eq_false_iff_eq, Bool.not_eq_true', Bool.not_eq_false', Int.ofNat_lt, Int.ofNat_le, Bool.or_eq_false_iff, Bool.and_eq_false_imp, Decidable.not_not, gt_iff_lt, ge_iff_le] at hn) <;> (try (exfalso; omega)) <;> (refine Todo.of ?_)) | (((with_reducible refine dwp_condA ?_ ?_ ?_); · rfl) <;> (refine Todo.of ?_))))
  have c1 : ((p.length : Int) != (q.length : Int)) = false := by simp; omega
  have hr : portsF a p b q = allP a p b q := by simp [portsF, c]
  (have hcond := Bool.and_self; refine Todo.of ?_; repeat' (first | ((with_reducible refine Todo.to ?_); try simp only [↓rP, rT, rU, eI, eU, eB, eS, eBs, eL, eA, buildCells, sepsD, sepB, hdl, dvalX, DOp.kind, dval, frameFrom, dBin, dInt, dStr, dBeq, dUn, dLoad, cellsAt, retV, retL, DR.val, fzT, fzVs, fzV, fz1, DV.immB, IntKind.bits, dCallP, viewVs, viewV, view1, capVL, capV, viewL, noMemV, noMem, elemsOf, dAppend, dAppz, dStore, DV.one, alive, freezeAt, fzLL, fzL, bRow, bU, cellsOf, setFrom, DV.isU, lenMax, Nat.reduceEqDiff, Nat.reduceAdd, ↓reduceIte, reduceCtorEq, Nat.reduceSub, Int.reduceToNat, Int.reducePow, Nat.reducePow, Int.reduceLE, Int.reduceLT, Nat.reduceLeDiff, Nat.reduceLT, Int.reduceBEq, Int.reduceBNe, Int.reduceEq, Int.reduceNe, Int.reduceAdd, Int.reduceSub, Int.reduceMul, Int.reduceNeg, Int.reduceTDiv, Int.reduceTMod, Int.reduceMod, Int.reduceDiv, Nat.reduceMul, forall_const, implies_true, d_noriaref36_ports, List.length_map, c1, hcond]) | ((with_reducible refine And.intro ?_ ?_); · first | trivial | omega | (simp; done) | (simp; omega)) | ((first | ((with_reducible refine dwp_condI (t := ?_) ?_ (fun hc => ?_) (fun hc => ?_)); rotate_left; · rfl) | ((with_reducible refine dops_guardI (t := ?_) ?_ (fun hc => ?_) (fun hc => ?_)); rotate_left; · rfl)) <;> (have hn := hc; have hcond := hc) <;> (try simp only [decide_eq_true_eq, decide_eq_false_iff_not, beq_iff_eq, bne_iff_ne, ne_eq, Bool.and_eq_true, Bool.or_eq_true, Bool.not_eq_true, Bool.not_eq_false, beq_eq_false_iff_ne, bne_eq_false_iff_eq, Bool.not_eq_true', Bool.not_eq_false', Int.ofNat_lt, Int.ofNat_le, Bool.or_eq_false_iff, Bool.and_eq_false_imp, Decidable.not_not, gt_iff_lt, ge_iff_le] at hn) <;> (try (exfalso; omega)) <;> (refine Todo.of ?_)) | (((with_reducible refine dwp_condA ?_ ?_ ?_); · rfl) <;> (refine Todo.of ?_))))
  refine dwp_loop (fun k : Nat => ⟨[(0, .sl (a.map cEn)), (1, .sl (p.map cPrt)), (2, .sl (b.map cEn)), (3, .sl (q.map cPrt)), (9, .int .i64 k)], []⟩) (fun k => k ≤ p.length ∧ ((p.zip q).take k).all (fun x => portF a x.1 b x.2) = true) (fun k => p.length - k) 0 (by exact Nat.zero_le _) ?_ ⟨Nat.zero_le _, by simp⟩ fun k hk => ?_
  · simp only [cut_some, cut_none, List.map_cons, List.map_nil, get_cons, Nk.get_nil, Nat.reduceEqDiff, ↓reduceIte, Nat.succ_ne_self, DV.cut, DV.inB, DObj.cut, List.take_nil, List.take_zero, if_true, Nat.zero_ne_one, Nat.one_ne_zero, DV.inBL, Bool.and_true, Bool.true_and, reduceCtorEq, Nat.zero_lt_one, decide_true, decide_false, Nat.reduceLT, List.take_succ_cons]
    rfl
  obtain ⟨hk, ht⟩ := hk
  by_cases d : k < p.length
  · have w : IntKind.i64.wrap ((k : Int) + 1) = ((k + 1 : Nat) : Int) := by rw [wrap_i64_id (by omega)]; omega
    have d2 : k < q.length := by omega
    have e1 := prt_getD d
    have e2 := prt_getD d2
    have n1 := @allP_not a b p q k d d2
    have n2 := @allP_take a b p q k d d2 ht
    generalize p.getD k default = x at *
    generalize q.getD k default = y at *
    have e3 := s_Alike_at a x.ty b y.ty
    rw [eq_true (show fewEn a ∧ fewEn b from ⟨ha, hb⟩)] at e3
    simp only [cTy, cPrt] at e1 e2 e3
    (have hcond := Bool.and_self; refine Todo.of ?_; repeat' (first | ((with_reducible refine Todo.to ?_); try simp only [↓rP, rT, rU, eI, eU, eB, eS, eBs, eL, eA, buildCells, sepsD, sepB, hdl, dvalX, DOp.kind, dval, frameFrom, dBin, dInt, dStr, dBeq, dUn, dLoad, cellsAt, retV, retL, DR.val, fzT, fzVs, fzV, fz1, DV.immB, IntKind.bits, dCallP, viewVs, viewV, view1, capVL, capV, viewL, noMemV, noMem, elemsOf, dAppend, dAppz, dStore, DV.one, alive, freezeAt, fzLL, fzL, bRow, bU, cellsOf, setFrom, DV.isU, lenMax, Nat.reduceEqDiff, Nat.reduceAdd, ↓reduceIte, reduceCtorEq, Nat.reduceSub, Int.reduceToNat, Int.reducePow, Nat.reducePow, Int.reduceLE, Int.reduceLT, Nat.reduceLeDiff, Nat.reduceLT, Int.reduceBEq, Int.reduceBNe, Int.reduceEq, Int.reduceNe, Int.reduceAdd, Int.reduceSub, Int.reduceMul, Int.reduceNeg, Int.reduceTDiv, Int.reduceTMod, Int.reduceMod, Int.reduceDiv, Nat.reduceMul, forall_const, implies_true, d_noriaref36_ports, List.length_map, e1, e2, e3, d, d2, w, hcond]) | ((with_reducible refine And.intro ?_ ?_); · first | trivial | omega | (simp; done) | (simp; omega)) | ((first | ((with_reducible refine dwp_condI (t := ?_) ?_ (fun hc => ?_) (fun hc => ?_)); rotate_left; · rfl) | ((with_reducible refine dops_guardI (t := ?_) ?_ (fun hc => ?_) (fun hc => ?_)); rotate_left; · rfl)) <;> (have hn := hc; have hcond := hc) <;> (try simp only [decide_eq_true_eq, decide_eq_false_iff_not, beq_iff_eq, bne_iff_ne, ne_eq, Bool.and_eq_true, Bool.or_eq_true, Bool.not_eq_true, Bool.not_eq_false, beq_eq_false_iff_ne, bne_eq_false_iff_eq, Bool.not_eq_true', Bool.not_eq_false', Int.ofNat_lt, Int.ofNat_le, Bool.or_eq_false_iff, Bool.and_eq_false_imp, Decidable.not_not, gt_iff_lt, ge_iff_le] at hn) <;> (try (exfalso; omega)) <;> (refine Todo.of ?_)) | (((with_reducible refine dwp_condA ?_ ?_ ?_); · rfl) <;> (refine Todo.of ?_))))
    all_goals first
      | (have := n1 (by grind [portF])
         simp only [hr, this]; done)
      | (refine ⟨k + 1, ?_, ⟨by omega, n2 (by grind [portF])⟩, by omega⟩
         simp only [cut_some, cut_none, List.map_cons, List.map_nil, get_cons, Nk.get_nil, Nat.reduceEqDiff, ↓reduceIte, Nat.succ_ne_self, DV.cut, DV.inB, DObj.cut, List.take_nil, List.take_zero, if_true, Nat.zero_ne_one, Nat.one_ne_zero, DV.inBL, Bool.and_true, Bool.true_and, reduceCtorEq, Nat.zero_lt_one, decide_true, decide_false, Nat.reduceLT, List.take_succ_cons])
  · have e : allP a p b q = true := by
      rw [List.take_of_length_le (by simp; omega)] at ht
      exact ht
    rw [e] at hr
    (have hcond := Bool.and_self; refine Todo.of ?_; repeat' (first | ((with_reducible refine Todo.to ?_); try simp only [↓rP, rT, rU, eI, eU, eB, eS, eBs, eL, eA, buildCells, sepsD, sepB, hdl, dvalX, DOp.kind, dval, frameFrom, dBin, dInt, dStr, dBeq, dUn, dLoad, cellsAt, retV, retL, DR.val, fzT, fzVs, fzV, fz1, DV.immB, IntKind.bits, dCallP, viewVs, viewV, view1, capVL, capV, viewL, noMemV, noMem, elemsOf, dAppend, dAppz, dStore, DV.one, alive, freezeAt, fzLL, fzL, bRow, bU, cellsOf, setFrom, DV.isU, lenMax, Nat.reduceEqDiff, Nat.reduceAdd, ↓reduceIte, reduceCtorEq, Nat.reduceSub, Int.reduceToNat, Int.reducePow, Nat.reducePow, Int.reduceLE, Int.reduceLT, Nat.reduceLeDiff, Nat.reduceLT, Int.reduceBEq, Int.reduceBNe, Int.reduceEq, Int.reduceNe, Int.reduceAdd, Int.reduceSub, Int.reduceMul, Int.reduceNeg, Int.reduceTDiv, Int.reduceTMod, Int.reduceMod, Int.reduceDiv, Nat.reduceMul, forall_const, implies_true, d_noriaref36_ports, List.length_map, d, hr, hcond]) | ((with_reducible refine And.intro ?_ ?_); · first | trivial | omega | (simp; done) | (simp; omega)) | ((first | ((with_reducible refine dwp_condI (t := ?_) ?_ (fun hc => ?_) (fun hc => ?_)); rotate_left; · rfl) | ((with_reducible refine dops_guardI (t := ?_) ?_ (fun hc => ?_) (fun hc => ?_)); rotate_left; · rfl)) <;> (have hn := hc; have hcond := hc) <;> (try simp only [decide_eq_true_eq, decide_eq_false_iff_not, beq_iff_eq, bne_iff_ne, ne_eq, Bool.and_eq_true, Bool.or_eq_true, Bool.not_eq_true, Bool.not_eq_false, beq_eq_false_iff_ne, bne_eq_false_iff_eq, Bool.not_eq_true', Bool.not_eq_false', Int.ofNat_lt, Int.ofNat_le, Bool.or_eq_false_iff, Bool.and_eq_false_imp, Decidable.not_not, gt_iff_lt, ge_iff_le] at hn) <;> (try (exfalso; omega)) <;> (refine Todo.of ?_)) | (((with_reducible refine dwp_condA ?_ ?_ ?_); · rfl) <;> (refine Todo.of ?_))))

/-- What is handed to the comparison of lists: two images. -/
@[reducible] def eSame (x : Img × Img) : DV := .clo 29 [.ref (cImg x.1), .ref (cImg x.2)]
theorem inj_Same : Inj eSame := fun x y h => by
  obtain ⟨x1, x2⟩ := x; obtain ⟨y1, y2⟩ := y
  simp only [eSame, DV.clo.injEq, true_and] at h
  injection h with h1 h2
  injection h2 with h2 _
  injection h1 with h1
  injection h2 with h2
  rw [cImg_inj _ _ h1, cImg_inj _ _ h2]
abbrev ePrt : Prt → DV := eA cPrt
theorem inj_Prt : Inj ePrt := inj_A cPrt_inj
@[reducible] def eRImg (x : Img) : DV := .ref (cImg x)
theorem inj_RImg : Inj eRImg := fun _ _ h => by
  injection h with h
  exact cImg_inj _ _ h
noncomputable def s_Same1 : List DV → Prop × DV := spec4 ePrt ePrt eRImg eRImg fun p q a b => (fewEn a.en ∧ fewEn b.en, .bool (portF a.en p b.en q))
theorem s_Same1_at (p q : Prt) (a b : Img) : s_Same1 [.agg (cPrt p), .agg (cPrt q), .ref (cImg a), .ref (cImg b)] = (fewEn a.en ∧ fewEn b.en, .bool (portF a.en p b.en q)) := spec4_at inj_Prt inj_Prt inj_RImg inj_RImg _ _ _ _ _
theorem ok_Same1 : OkP Try.prog 29 s_Same1 := by
  refine OkP.mk4 (ps := [(30, s_Alike)]) (hs := []) ⟨ok_Alike, trivial⟩ trivial m_face_Same_1 fun p q a b h => ?_
  have e3 := s_Alike_at a.en p.ty b.en q.ty
  rw [eq_true (show fewEn a.en ∧ fewEn b.en from h)] at e3
  simp only [cTy] at e3
  (have hcond := Bool.and_self; refine Todo.of ?_; repeat' (first | ((with_reducible refine Todo.to ?_); try simp only [↓rP, rT, rU, eI, eU, eB, eS, eBs, eL, eA, buildCells, sepsD, sepB, hdl, dvalX, DOp.kind, dval, frameFrom, dBin, dInt, dStr, dBeq, dUn, dLoad, cellsAt, retV, retL, DR.val, fzT, fzVs, fzV, fz1, DV.immB, IntKind.bits, dCallP, viewVs, viewV, view1, capVL, capV, viewL, noMemV, noMem, elemsOf, dAppend, dAppz, dStore, DV.one, alive, freezeAt, fzLL, fzL, bRow, bU, cellsOf, setFrom, DV.isU, lenMax, Nat.reduceEqDiff, Nat.reduceAdd, ↓reduceIte, reduceCtorEq, Nat.reduceSub, Int.reduceToNat, Int.reducePow, Nat.reducePow, Int.reduceLE, Int.reduceLT, Nat.reduceLeDiff, Nat.reduceLT, Int.reduceBEq, Int.reduceBNe, Int.reduceEq, Int.reduceNe, Int.reduceAdd, Int.reduceSub, Int.reduceMul, Int.reduceNeg, Int.reduceTDiv, Int.reduceTMod, Int.reduceMod, Int.reduceDiv, Nat.reduceMul, forall_const, implies_true, d_face_Same_1, e3, hcond]) | ((with_reducible refine And.intro ?_ ?_); · first | trivial | omega | (simp; done) | (simp; omega)) | ((first | ((with_reducible refine dwp_condI (t := ?_) ?_ (fun hc => ?_) (fun hc => ?_)); rotate_left; · rfl) | ((with_reducible refine dops_guardI (t := ?_) ?_ (fun hc => ?_) (fun hc => ?_)); rotate_left; · rfl)) <;> (have hn := hc; have hcond := hc) <;> (try simp only [decide_eq_true_eq, decide_eq_false_iff_not, beq_iff_eq, bne_iff_ne, ne_eq, Bool.and_eq_true, Bool.or_eq_true, Bool.not_eq_true, Bool.not_eq_false, beq_eq_false_iff_ne, bne_eq_false_iff_eq, Bool.not_eq_true', Bool.not_eq_false', Int.ofNat_lt, Int.ofNat_le, Bool.or_eq_false_iff, Bool.and_eq_false_imp, Decidable.not_not, gt_iff_lt, ge_iff_le] at hn) <;> (try (exfalso; omega)) <;> (refine Todo.of ?_)) | (((with_reducible refine dwp_condA ?_ ?_ ?_); · rfl) <;> (refine Todo.of ?_))))
  all_goals grind [portF]
end Go.Proofs.Ytiidllpiipcdjaa
