/- Types, enums: which are right, how many cells, which are alike. -/
import Derived.Test.YtaoabkpfidbogaaDoorBa
import Derived.Test.YtaoabkpfidbogaaDoorIdx
set_option linter.all false
set_option maxRecDepth 20000
namespace Go.Proofs.YtaoabkpfidbogaaDoor
open Go.Nk

/-- A type. -/
structure Ty where
  k : Int
  e : Int
  n : Int
@[reducible] def cTy (t : Ty) : List DV := [.int .i64 t.k, .int .i64 t.e, .int .i64 t.n]
theorem cTy_inj : ∀ x y, cTy x = cTy y → x = y := fun x y h => by
  cases x; cases y
  simp only [cTy, List.cons.injEq, DV.int.injEq, true_and, and_true] at h
  obtain ⟨rfl, rfl, rfl⟩ := h
  rfl
instance : Inhabited Ty := ⟨⟨0, 0, 0⟩⟩
abbrev eTy : Ty → DV := eA cTy
theorem inj_Ty : Inj eTy := inj_A cTy_inj


/-- An enum. -/
structure En where
  name : List UInt8
  ct : List (List UInt8)
@[reducible] def cEn (x : En) : List DV := [.str x.name, .sl (sls x.ct)]
theorem cEn_inj : ∀ x y, cEn x = cEn y → x = y := fun x y h => by
  cases x; cases y
  simp only [cEn, List.cons.injEq, DV.str.injEq, DV.sl.injEq, and_true] at h
  obtain ⟨rfl, h2⟩ := h
  rw [sls_inj h2]
instance : Inhabited En := ⟨⟨[], []⟩⟩
abbrev eEns : List En → DV := eL cEn
theorem inj_Ens : Inj eEns := inj_L cEn_inj

def rightTy (l : List En) (t : Ty) : Bool :=
  decide (1 ≤ t.k) && decide (t.k ≤ 3) && decide (0 ≤ t.n) && decide (t.n ≤ 8) && (if t.k = 3 then decide (0 ≤ t.e) && decide (t.e < l.length) else t.e == 0)
noncomputable def s_RightTy : List DV → Prop × DV := spec2 eEns eTy fun l t => (True, .bool (rightTy l t))
theorem s_RightTy_at (l : List En) (t : Ty) : s_RightTy [.sl (l.map cEn), .agg (cTy t)] = (True, .bool (rightTy l t)) := spec2_at inj_Ens inj_Ty _ _ _
theorem ok_refRightTy : OkP Tryd.prog 11 s_RightTy := by
  refine OkP.mk2 (ps := []) (hs := []) trivial trivial m_noriaref05_Right fun l t _ => ?_
  (have hcondQ := Bool.and_self; refine Todo.of ?_; repeat' (first | ((with_reducible refine Todo.to ?_); try simp only [↓rP, rT, rU, eI, eU, eB, eS, eBs, eL, eA, buildCells, sepsD, sepB, hdl, dvalX, DOp.kind, dval, frameFrom, dBin, dInt, dStr, dBeq, dUn, dLoad, cellsAt, retV, retL, DR.val, fzT, fzVs, fzV, fz1, DV.immB, IntKind.bits, dCallP, viewVs, viewV, view1, capVL, capV, viewL, noMemV, noMem, elemsOf, dAppend, dAppz, dStore, DV.one, alive, freezeAt, fzLL, fzL, bRow, bU, cellsOf, setFrom, DV.isU, lenMax, lenCap, Nat.reduceEqDiff, Nat.reduceAdd, ↓reduceIte, reduceCtorEq, Nat.reduceSub, Int.reduceToNat, Int.reducePow, Nat.reducePow, Int.reduceLE, Int.reduceLT, Nat.reduceLeDiff, Nat.reduceLT, Int.reduceBEq, Int.reduceBNe, Int.reduceEq, Int.reduceNe, Int.reduceAdd, Int.reduceSub, Int.reduceMul, Int.reduceNeg, Int.reduceTDiv, Int.reduceTMod, Int.reduceMod, Int.reduceDiv, Nat.reduceMul, forall_const, implies_true, d_noriaref05_Right, List.length_map, hcondQ]) | ((with_reducible refine And.intro ?_ ?_); · first | trivial | omega | (simp; done) | (simp; omega)) | ((first | ((with_reducible refine dwp_condI (t := ?_) ?_ (fun hcQ => ?_) (fun hcQ => ?_)); rotate_left; · rfl) | ((with_reducible refine dops_guardI (t := ?_) ?_ (fun hcQ => ?_) (fun hcQ => ?_)); rotate_left; · rfl)) <;> (have hn := hcQ; have hcondQ := hcQ) <;> (try simp only [decide_eq_true_eq, decide_eq_false_iff_not, beq_iff_eq, bne_iff_ne, ne_eq, Bool.and_eq_true, Bool.or_eq_true, Bool.not_eq_true, Bool.not_eq_false, beq_eq_false_iff_ne, bne_eq_false_iff_eq, Bool.not_eq_true', Bool.not_eq_false', Int.ofNat_lt, Int.ofNat_le, Bool.or_eq_false_iff, Bool.and_eq_false_imp, Decidable.not_not, gt_iff_lt, ge_iff_le] at hn) <;> (try (exfalso; omega)) <;> (refine Todo.of ?_)) | (((with_reducible refine dwp_condA ?_ ?_ ?_); · rfl) <;> (refine Todo.of ?_))))
  all_goals grind [rightTy]
theorem ok_RightTy : OkP Tryd.prog 29 s_RightTy := by
  refine OkP.mk2 (ps := []) (hs := []) trivial trivial m_ty_Right fun l t _ => ?_
  (have hcondQ := Bool.and_self; refine Todo.of ?_; repeat' (first | ((with_reducible refine Todo.to ?_); try simp only [↓rP, rT, rU, eI, eU, eB, eS, eBs, eL, eA, buildCells, sepsD, sepB, hdl, dvalX, DOp.kind, dval, frameFrom, dBin, dInt, dStr, dBeq, dUn, dLoad, cellsAt, retV, retL, DR.val, fzT, fzVs, fzV, fz1, DV.immB, IntKind.bits, dCallP, viewVs, viewV, view1, capVL, capV, viewL, noMemV, noMem, elemsOf, dAppend, dAppz, dStore, DV.one, alive, freezeAt, fzLL, fzL, bRow, bU, cellsOf, setFrom, DV.isU, lenMax, lenCap, Nat.reduceEqDiff, Nat.reduceAdd, ↓reduceIte, reduceCtorEq, Nat.reduceSub, Int.reduceToNat, Int.reducePow, Nat.reducePow, Int.reduceLE, Int.reduceLT, Nat.reduceLeDiff, Nat.reduceLT, Int.reduceBEq, Int.reduceBNe, Int.reduceEq, Int.reduceNe, Int.reduceAdd, Int.reduceSub, Int.reduceMul, Int.reduceNeg, Int.reduceTDiv, Int.reduceTMod, Int.reduceMod, Int.reduceDiv, Nat.reduceMul, forall_const, implies_true, d_ty_Right, List.length_map, hcondQ]) | ((with_reducible refine And.intro ?_ ?_); · first | trivial | omega | (simp; done) | (simp; omega)) | ((first | ((with_reducible refine dwp_condI (t := ?_) ?_ (fun hcQ => ?_) (fun hcQ => ?_)); rotate_left; · rfl) | ((with_reducible refine dops_guardI (t := ?_) ?_ (fun hcQ => ?_) (fun hcQ => ?_)); rotate_left; · rfl)) <;> (have hn := hcQ; have hcondQ := hcQ) <;> (try simp only [decide_eq_true_eq, decide_eq_false_iff_not, beq_iff_eq, bne_iff_ne, ne_eq, Bool.and_eq_true, Bool.or_eq_true, Bool.not_eq_true, Bool.not_eq_false, beq_eq_false_iff_ne, bne_eq_false_iff_eq, Bool.not_eq_true', Bool.not_eq_false', Int.ofNat_lt, Int.ofNat_le, Bool.or_eq_false_iff, Bool.and_eq_false_imp, Decidable.not_not, gt_iff_lt, ge_iff_le] at hn) <;> (try (exfalso; omega)) <;> (refine Todo.of ?_)) | (((with_reducible refine dwp_condA ?_ ?_ ?_); · rfl) <;> (refine Todo.of ?_))))
  all_goals grind [rightTy]

def cellsTy (t : Ty) : Int := if t.n < 1 then 1 else if 8 < t.n then 8 else t.n
noncomputable def s_CellsTy : List DV → Prop × DV := spec1 eTy fun t => (True, .int .i64 (cellsTy t))
theorem s_CellsTy_at (t : Ty) : s_CellsTy [.agg (cTy t)] = (True, .int .i64 (cellsTy t)) := spec1_at inj_Ty _ _
theorem ok_refCellsTy : OkP Tryd.prog 32 s_CellsTy := by
  refine OkP.mk1 (ps := []) (hs := []) trivial trivial m_noriaref05_Cells fun t _ => ?_
  (have hcondQ := Bool.and_self; refine Todo.of ?_; repeat' (first | ((with_reducible refine Todo.to ?_); try simp only [↓rP, rT, rU, eI, eU, eB, eS, eBs, eL, eA, buildCells, sepsD, sepB, hdl, dvalX, DOp.kind, dval, frameFrom, dBin, dInt, dStr, dBeq, dUn, dLoad, cellsAt, retV, retL, DR.val, fzT, fzVs, fzV, fz1, DV.immB, IntKind.bits, dCallP, viewVs, viewV, view1, capVL, capV, viewL, noMemV, noMem, elemsOf, dAppend, dAppz, dStore, DV.one, alive, freezeAt, fzLL, fzL, bRow, bU, cellsOf, setFrom, DV.isU, lenMax, lenCap, Nat.reduceEqDiff, Nat.reduceAdd, ↓reduceIte, reduceCtorEq, Nat.reduceSub, Int.reduceToNat, Int.reducePow, Nat.reducePow, Int.reduceLE, Int.reduceLT, Nat.reduceLeDiff, Nat.reduceLT, Int.reduceBEq, Int.reduceBNe, Int.reduceEq, Int.reduceNe, Int.reduceAdd, Int.reduceSub, Int.reduceMul, Int.reduceNeg, Int.reduceTDiv, Int.reduceTMod, Int.reduceMod, Int.reduceDiv, Nat.reduceMul, forall_const, implies_true, d_noriaref05_Cells, hcondQ]) | ((with_reducible refine And.intro ?_ ?_); · first | trivial | omega | (simp; done) | (simp; omega)) | ((first | ((with_reducible refine dwp_condI (t := ?_) ?_ (fun hcQ => ?_) (fun hcQ => ?_)); rotate_left; · rfl) | ((with_reducible refine dops_guardI (t := ?_) ?_ (fun hcQ => ?_) (fun hcQ => ?_)); rotate_left; · rfl)) <;> (have hn := hcQ; have hcondQ := hcQ) <;> (try simp only [decide_eq_true_eq, decide_eq_false_iff_not, beq_iff_eq, bne_iff_ne, ne_eq, Bool.and_eq_true, Bool.or_eq_true, Bool.not_eq_true, Bool.not_eq_false, beq_eq_false_iff_ne, bne_eq_false_iff_eq, Bool.not_eq_true', Bool.not_eq_false', Int.ofNat_lt, Int.ofNat_le, Bool.or_eq_false_iff, Bool.and_eq_false_imp, Decidable.not_not, gt_iff_lt, ge_iff_le] at hn) <;> (try (exfalso; omega)) <;> (refine Todo.of ?_)) | (((with_reducible refine dwp_condA ?_ ?_ ?_); · rfl) <;> (refine Todo.of ?_))))
  all_goals grind [cellsTy]
theorem ok_CellsTy : OkP Tryd.prog 30 s_CellsTy := by
  refine OkP.mk1 (ps := []) (hs := []) trivial trivial m_ty_Cells fun t _ => ?_
  (have hcondQ := Bool.and_self; refine Todo.of ?_; repeat' (first | ((with_reducible refine Todo.to ?_); try simp only [↓rP, rT, rU, eI, eU, eB, eS, eBs, eL, eA, buildCells, sepsD, sepB, hdl, dvalX, DOp.kind, dval, frameFrom, dBin, dInt, dStr, dBeq, dUn, dLoad, cellsAt, retV, retL, DR.val, fzT, fzVs, fzV, fz1, DV.immB, IntKind.bits, dCallP, viewVs, viewV, view1, capVL, capV, viewL, noMemV, noMem, elemsOf, dAppend, dAppz, dStore, DV.one, alive, freezeAt, fzLL, fzL, bRow, bU, cellsOf, setFrom, DV.isU, lenMax, lenCap, Nat.reduceEqDiff, Nat.reduceAdd, ↓reduceIte, reduceCtorEq, Nat.reduceSub, Int.reduceToNat, Int.reducePow, Nat.reducePow, Int.reduceLE, Int.reduceLT, Nat.reduceLeDiff, Nat.reduceLT, Int.reduceBEq, Int.reduceBNe, Int.reduceEq, Int.reduceNe, Int.reduceAdd, Int.reduceSub, Int.reduceMul, Int.reduceNeg, Int.reduceTDiv, Int.reduceTMod, Int.reduceMod, Int.reduceDiv, Nat.reduceMul, forall_const, implies_true, d_ty_Cells, hcondQ]) | ((with_reducible refine And.intro ?_ ?_); · first | trivial | omega | (simp; done) | (simp; omega)) | ((first | ((with_reducible refine dwp_condI (t := ?_) ?_ (fun hcQ => ?_) (fun hcQ => ?_)); rotate_left; · rfl) | ((with_reducible refine dops_guardI (t := ?_) ?_ (fun hcQ => ?_) (fun hcQ => ?_)); rotate_left; · rfl)) <;> (have hn := hcQ; have hcondQ := hcQ) <;> (try simp only [decide_eq_true_eq, decide_eq_false_iff_not, beq_iff_eq, bne_iff_ne, ne_eq, Bool.and_eq_true, Bool.or_eq_true, Bool.not_eq_true, Bool.not_eq_false, beq_eq_false_iff_ne, bne_eq_false_iff_eq, Bool.not_eq_true', Bool.not_eq_false', Int.ofNat_lt, Int.ofNat_le, Bool.or_eq_false_iff, Bool.and_eq_false_imp, Decidable.not_not, gt_iff_lt, ge_iff_le] at hn) <;> (try (exfalso; omega)) <;> (refine Todo.of ?_)) | (((with_reducible refine dwp_condA ?_ ?_ ?_); · rfl) <;> (refine Todo.of ?_))))
  all_goals grind [cellsTy]

noncomputable def s_Names : List DV → Prop × DV := spec2 eSs eSs fun a b => (a.length ≤ 1000000000, .bool (decide (a = b)))
theorem s_Names_at (a b : List (List UInt8)) : s_Names [.sl (sls a), .sl (sls b)] = (a.length ≤ 1000000000, .bool (decide (a = b))) := spec2_at inj_Ss inj_Ss _ _ _
end Go.Proofs.YtaoabkpfidbogaaDoor

/- Which types of two lists are alike. -/
set_option linter.all false
set_option maxRecDepth 20000
namespace Go.Proofs.YtaoabkpfidbogaaDoor
open Go.Nk

def fewEn (l : List En) : Prop := ∀ x ∈ l, x.ct.length ≤ 1000000000
def sameEn (x y : En) : Bool := decide (x.name = y.name) && decide (x.ct = y.ct)
def alikeF (a : List En) (t : Ty) (b : List En) (u : Ty) : Bool :=
  rightTy a t && rightTy b u && t.k == u.k && t.n == u.n && (if t.k = 3 then sameEn (a.getD t.e.toNat default) (b.getD u.e.toNat default) else true)
noncomputable def s_Alike : List DV → Prop × DV := spec4 eEns eTy eEns eTy fun a t b u => (fewEn a ∧ fewEn b, .bool (alikeF a t b u))
theorem s_Alike_at (a : List En) (t : Ty) (b : List En) (u : Ty) : s_Alike [.sl (a.map cEn), .agg (cTy t), .sl (b.map cEn), .agg (cTy u)] = (fewEn a ∧ fewEn b, .bool (alikeF a t b u)) := spec4_at inj_Ens inj_Ty inj_Ens inj_Ty _ _ _ _ _
theorem en_getD {l : List En} {j : Nat} (h : j < l.length) : (l.map cEn).getD j [] = cEn (l.getD j default) := by simp [h]
theorem fewEn_at {l : List En} (h : fewEn l) (j : Nat) : (l.getD j default).ct.length ≤ 1000000000 := by
  by_cases hj : j < l.length
  · have : l.getD j default = l[j] := by simp [hj]
    rw [this]; exact h _ (List.getElem_mem hj)
  · have : l.getD j default = default := by simp [hj]
    rw [this]; exact Nat.zero_le _
theorem enum_at {l : List En} {t : Ty} (h : rightTy l t = true) (hk : t.k = 3) : ∃ j : Nat, t.e = j ∧ j < l.length := by
  simp only [rightTy, hk, if_true, Bool.and_eq_true, decide_eq_true_eq] at h
  exact ⟨t.e.toNat, by omega, by omega⟩
end Go.Proofs.YtaoabkpfidbogaaDoor

/- Ports, slots, images; which images have the same inputs and outputs. -/
set_option linter.all false
set_option maxRecDepth 20000
namespace Go.Proofs.YtaoabkpfidbogaaDoor
open Go.Nk


/-- A port. -/
structure Prt where
  name : List UInt8
  ty : Ty
@[reducible] def cPrt (p : Prt) : List DV := [.str p.name, .int .i64 p.ty.k, .int .i64 p.ty.e, .int .i64 p.ty.n]
theorem cPrt_inj : ∀ x y, cPrt x = cPrt y → x = y := fun x y h => by
  obtain ⟨n, k, e, m⟩ := x; obtain ⟨n', k', e', m'⟩ := y
  simp only [cPrt, List.cons.injEq, DV.str.injEq, DV.int.injEq, true_and, and_true] at h
  obtain ⟨rfl, rfl, rfl, rfl⟩ := h
  rfl
instance : Inhabited Prt := ⟨⟨[], default⟩⟩
theorem prt_getD {l : List Prt} {j : Nat} (h : j < l.length) : (l.map cPrt).getD j [] = cPrt (l.getD j default) := by simp [h]
abbrev ePrts : List Prt → DV := eL cPrt
theorem inj_Prts : Inj ePrts := inj_L cPrt_inj

/-- What is kept. -/
structure Slt where
  path : List UInt8
  ty : Ty
  at_ : Int
  ini : List Int
@[reducible] def cSlt (s : Slt) : List DV := [.str s.path, .int .i64 s.ty.k, .int .i64 s.ty.e, .int .i64 s.ty.n, .int .i64 s.at_, .sl (ils s.ini)]
theorem cSlt_inj : ∀ x y, cSlt x = cSlt y → x = y := fun x y h => by
  obtain ⟨n, ⟨k, e, m⟩, a, i⟩ := x; obtain ⟨n', ⟨k', e', m'⟩, a', i'⟩ := y
  simp only [cSlt, List.cons.injEq, DV.str.injEq, DV.int.injEq, DV.sl.injEq, true_and, and_true] at h
  obtain ⟨rfl, rfl, rfl, rfl, rfl, h⟩ := h
  rw [ils_inj h]
instance : Inhabited Slt := ⟨⟨[], default, 0, []⟩⟩

/-- An instruction. -/
structure In4 where
  o : Int
  a : Int
  b : Int
  n : Int
@[reducible] def cIn4 (x : In4) : List DV := [.int .i64 x.o, .int .i64 x.a, .int .i64 x.b, .int .i64 x.n]
theorem cIn4_inj : ∀ x y, cIn4 x = cIn4 y → x = y := fun x y h => by
  cases x; cases y
  simp only [cIn4, List.cons.injEq, DV.int.injEq, true_and, and_true] at h
  obtain ⟨rfl, rfl, rfl, rfl⟩ := h
  rfl

/-- An image. -/
structure Img where
  en : List En
  ins : List Prt
  outs : List Prt
  slots : List Slt
  loc : List Int
  code : List In4
@[reducible] def cImg (x : Img) : List DV := [.sl (x.en.map cEn), .sl (x.ins.map cPrt), .sl (x.outs.map cPrt), .sl (x.slots.map cSlt), .sl (ils x.loc), .sl (x.code.map cIn4)]
theorem cImg_inj : ∀ x y, cImg x = cImg y → x = y := fun x y h => by
  cases x; cases y
  simp only [cImg, List.cons.injEq, DV.sl.injEq, and_true] at h
  obtain ⟨h1, h2, h3, h4, h5, h6⟩ := h
  rw [map_inj cEn_inj _ _ h1, map_inj cPrt_inj _ _ h2, map_inj cPrt_inj _ _ h3, map_inj cSlt_inj _ _ h4, ils_inj h5, map_inj cIn4_inj _ _ h6]
abbrev eImg : Img → DV := eA cImg
theorem inj_Img : Inj eImg := inj_A cImg_inj

def portF (a : List En) (p : Prt) (b : List En) (q : Prt) : Bool := decide (p.name = q.name) && alikeF a p.ty b q.ty
def allP (a : List En) (p : List Prt) (b : List En) (q : List Prt) : Bool := (p.zip q).all fun x => portF a x.1 b x.2
def portsF (a : List En) (p : List Prt) (b : List En) (q : List Prt) : Bool := p.length == q.length && allP a p b q
theorem allP_take {a b : List En} {p q : List Prt} {k : Nat} (h1 : k < p.length) (h2 : k < q.length) (h : ((p.zip q).take k).all (fun x => portF a x.1 b x.2) = true) (e : portF a (p.getD k default) b (q.getD k default) = true) :
    ((p.zip q).take (k + 1)).all (fun x => portF a x.1 b x.2) = true := by
  have hz : (p.zip q)[k]? = some (p[k], q[k]) := List.getElem?_zip_eq_some.2 ⟨by simp [h1], by simp [h2]⟩
  have e1 : p.getD k default = p[k] := by simp [h1]
  have e2 : q.getD k default = q[k] := by simp [h2]
  rw [List.take_add_one, hz, List.all_append, h]
  rw [e1, e2] at e
  simp [e]
theorem allP_not {a b : List En} {p q : List Prt} {k : Nat} (h1 : k < p.length) (h2 : k < q.length) (e : portF a (p.getD k default) b (q.getD k default) = false) : allP a p b q = false := by
  unfold allP
  rw [List.all_eq_false]
  refine ⟨(p.getD k default, q.getD k default), ?_, by simp only [e]; simp⟩
  rw [List.mem_iff_getElem]
  exact ⟨k, by simp; omega, by simp [h1, h2]⟩

noncomputable def s_ports : List DV → Prop × DV := spec4 eEns ePrts eEns ePrts fun a p b q => (fewEn a ∧ fewEn b ∧ p.length ≤ 1000000000, .bool (portsF a p b q))
theorem s_ports_at (a : List En) (p : List Prt) (b : List En) (q : List Prt) : s_ports [.sl (a.map cEn), .sl (p.map cPrt), .sl (b.map cEn), .sl (q.map cPrt)] = (fewEn a ∧ fewEn b ∧ p.length ≤ 1000000000, .bool (portsF a p b q)) := spec4_at inj_Ens inj_Prts inj_Ens inj_Prts _ _ _ _ _
abbrev ePrt : Prt → DV := eA cPrt
theorem inj_Prt : Inj ePrt := inj_A cPrt_inj
@[reducible] def eRImg (x : Img) : DV := .ref (cImg x)
theorem inj_RImg : Inj eRImg := fun _ _ h => by
  injection h with h
  exact cImg_inj _ _ h
noncomputable def s_Same1 : List DV → Prop × DV := spec4 ePrt ePrt eRImg eRImg fun p q a b => (fewEn a.en ∧ fewEn b.en, .bool (portF a.en p b.en q))
theorem s_Same1_at (p q : Prt) (a b : Img) : s_Same1 [.agg (cPrt p), .agg (cPrt q), .ref (cImg a), .ref (cImg b)] = (fewEn a.en ∧ fewEn b.en, .bool (portF a.en p b.en q)) := spec4_at inj_Prt inj_Prt inj_RImg inj_RImg _ _ _ _ _
end Go.Proofs.YtaoabkpfidbogaaDoor

/- Which images have the same inputs and outputs. -/
set_option linter.all false
set_option maxRecDepth 20000
namespace Go.Proofs.YtaoabkpfidbogaaDoor
open Go.Nk

def okImg (x : Img) : Prop := fewEn x.en ∧ x.ins.length ≤ 1000000000 ∧ x.outs.length ≤ 1000000000
def sameF (a b : Img) : Bool := portsF a.en a.ins b.en b.ins && portsF a.en a.outs b.en b.outs
noncomputable def s_SameI : List DV → Prop × DV := spec2 eImg eImg fun a b => (okImg a ∧ okImg b, .bool (sameF a b))
theorem s_SameI_at (a b : Img) : s_SameI [.agg (cImg a), .agg (cImg b)] = (okImg a ∧ okImg b, .bool (sameF a b)) := spec2_at inj_Img inj_Img _ _ _
end Go.Proofs.YtaoabkpfidbogaaDoor

/- Which values a type has. -/
set_option linter.all false
set_option maxRecDepth 20000
namespace Go.Proofs.YtaoabkpfidbogaaDoor
open Go.Nk

def oneV (l : List En) (t : Ty) (n : Int) : Bool := if t.k = 2 then n == 0 || n == 1 else t.k == 1 || (decide (0 ≤ n) && decide (n < (l.getD t.e.toNat default).ct.length))
def oneF (l : List En) (t : Ty) (n : Int) : Bool := rightTy l t && oneV l t n
noncomputable def s_One : List DV → Prop × DV := spec3 eEns eTy eI fun l t n => (True, .bool (oneF l t n))
theorem s_One_at (l : List En) (t : Ty) (n : Int) : s_One [.sl (l.map cEn), .agg (cTy t), .int .i64 n] = (True, .bool (oneF l t n)) := spec3_at inj_Ens inj_Ty inj_I _ _ _ _
theorem kind_at {l : List En} {t : Ty} (h : rightTy l t = true) : t.k = 1 ∨ t.k = 2 ∨ t.k = 3 := by
  simp only [rightTy, Bool.and_eq_true, decide_eq_true_eq] at h
  omega
theorem ok_refOne : OkP Tryd.prog 16 s_One := by
  refine OkP.mk3 (ps := [(11, s_RightTy)]) (hs := []) ⟨ok_refRightTy, trivial⟩ trivial m_noriaref06_One fun l t n _ => ?_
  have e1 := s_RightTy_at l t
  simp only [cTy] at e1
  by_cases q : rightTy l t = true
  rotate_left
  · (have hcondQ := Bool.and_self; refine Todo.of ?_; repeat' (first | ((with_reducible refine Todo.to ?_); try simp only [↓rP, rT, rU, eI, eU, eB, eS, eBs, eL, eA, buildCells, sepsD, sepB, hdl, dvalX, DOp.kind, dval, frameFrom, dBin, dInt, dStr, dBeq, dUn, dLoad, cellsAt, retV, retL, DR.val, fzT, fzVs, fzV, fz1, DV.immB, IntKind.bits, dCallP, viewVs, viewV, view1, capVL, capV, viewL, noMemV, noMem, elemsOf, dAppend, dAppz, dStore, DV.one, alive, freezeAt, fzLL, fzL, bRow, bU, cellsOf, setFrom, DV.isU, lenMax, lenCap, Nat.reduceEqDiff, Nat.reduceAdd, ↓reduceIte, reduceCtorEq, Nat.reduceSub, Int.reduceToNat, Int.reducePow, Nat.reducePow, Int.reduceLE, Int.reduceLT, Nat.reduceLeDiff, Nat.reduceLT, Int.reduceBEq, Int.reduceBNe, Int.reduceEq, Int.reduceNe, Int.reduceAdd, Int.reduceSub, Int.reduceMul, Int.reduceNeg, Int.reduceTDiv, Int.reduceTMod, Int.reduceMod, Int.reduceDiv, Nat.reduceMul, forall_const, implies_true, d_noriaref06_One, e1, q, hcondQ]) | ((with_reducible refine And.intro ?_ ?_); · first | trivial | omega | (simp; done) | (simp; omega)) | ((first | ((with_reducible refine dwp_condI (t := ?_) ?_ (fun hcQ => ?_) (fun hcQ => ?_)); rotate_left; · rfl) | ((with_reducible refine dops_guardI (t := ?_) ?_ (fun hcQ => ?_) (fun hcQ => ?_)); rotate_left; · rfl)) <;> (have hn := hcQ; have hcondQ := hcQ) <;> (try simp only [decide_eq_true_eq, decide_eq_false_iff_not, beq_iff_eq, bne_iff_ne, ne_eq, Bool.and_eq_true, Bool.or_eq_true, Bool.not_eq_true, Bool.not_eq_false, beq_eq_false_iff_ne, bne_eq_false_iff_eq, Bool.not_eq_true', Bool.not_eq_false', Int.ofNat_lt, Int.ofNat_le, Bool.or_eq_false_iff, Bool.and_eq_false_imp, Decidable.not_not, gt_iff_lt, ge_iff_le] at hn) <;> (try (exfalso; omega)) <;> (refine Todo.of ?_)) | (((with_reducible refine dwp_condA ?_ ?_ ?_); · rfl) <;> (refine Todo.of ?_))))
    all_goals grind [oneF]
  have hr : oneF l t n = oneV l t n := by simp [oneF, q]
  rw [hr]
  rcases kind_at q with k | k | k
  · have k1 : (t.k == 1) = true := by simp [k]
    have k2 : (t.k == 2) = false := by simp [k]
    (have hcondQ := Bool.and_self; refine Todo.of ?_; repeat' (first | ((with_reducible refine Todo.to ?_); try simp only [↓rP, rT, rU, eI, eU, eB, eS, eBs, eL, eA, buildCells, sepsD, sepB, hdl, dvalX, DOp.kind, dval, frameFrom, dBin, dInt, dStr, dBeq, dUn, dLoad, cellsAt, retV, retL, DR.val, fzT, fzVs, fzV, fz1, DV.immB, IntKind.bits, dCallP, viewVs, viewV, view1, capVL, capV, viewL, noMemV, noMem, elemsOf, dAppend, dAppz, dStore, DV.one, alive, freezeAt, fzLL, fzL, bRow, bU, cellsOf, setFrom, DV.isU, lenMax, lenCap, Nat.reduceEqDiff, Nat.reduceAdd, ↓reduceIte, reduceCtorEq, Nat.reduceSub, Int.reduceToNat, Int.reducePow, Nat.reducePow, Int.reduceLE, Int.reduceLT, Nat.reduceLeDiff, Nat.reduceLT, Int.reduceBEq, Int.reduceBNe, Int.reduceEq, Int.reduceNe, Int.reduceAdd, Int.reduceSub, Int.reduceMul, Int.reduceNeg, Int.reduceTDiv, Int.reduceTMod, Int.reduceMod, Int.reduceDiv, Nat.reduceMul, forall_const, implies_true, d_noriaref06_One, e1, q, k1, k2, hcondQ]) | ((with_reducible refine And.intro ?_ ?_); · first | trivial | omega | (simp; done) | (simp; omega)) | ((first | ((with_reducible refine dwp_condI (t := ?_) ?_ (fun hcQ => ?_) (fun hcQ => ?_)); rotate_left; · rfl) | ((with_reducible refine dops_guardI (t := ?_) ?_ (fun hcQ => ?_) (fun hcQ => ?_)); rotate_left; · rfl)) <;> (have hn := hcQ; have hcondQ := hcQ) <;> (try simp only [decide_eq_true_eq, decide_eq_false_iff_not, beq_iff_eq, bne_iff_ne, ne_eq, Bool.and_eq_true, Bool.or_eq_true, Bool.not_eq_true, Bool.not_eq_false, beq_eq_false_iff_ne, bne_eq_false_iff_eq, Bool.not_eq_true', Bool.not_eq_false', Int.ofNat_lt, Int.ofNat_le, Bool.or_eq_false_iff, Bool.and_eq_false_imp, Decidable.not_not, gt_iff_lt, ge_iff_le] at hn) <;> (try (exfalso; omega)) <;> (refine Todo.of ?_)) | (((with_reducible refine dwp_condA ?_ ?_ ?_); · rfl) <;> (refine Todo.of ?_))))
    all_goals grind [oneV]
  · have k2 : (t.k == 2) = true := by simp [k]
    (have hcondQ := Bool.and_self; refine Todo.of ?_; repeat' (first | ((with_reducible refine Todo.to ?_); try simp only [↓rP, rT, rU, eI, eU, eB, eS, eBs, eL, eA, buildCells, sepsD, sepB, hdl, dvalX, DOp.kind, dval, frameFrom, dBin, dInt, dStr, dBeq, dUn, dLoad, cellsAt, retV, retL, DR.val, fzT, fzVs, fzV, fz1, DV.immB, IntKind.bits, dCallP, viewVs, viewV, view1, capVL, capV, viewL, noMemV, noMem, elemsOf, dAppend, dAppz, dStore, DV.one, alive, freezeAt, fzLL, fzL, bRow, bU, cellsOf, setFrom, DV.isU, lenMax, lenCap, Nat.reduceEqDiff, Nat.reduceAdd, ↓reduceIte, reduceCtorEq, Nat.reduceSub, Int.reduceToNat, Int.reducePow, Nat.reducePow, Int.reduceLE, Int.reduceLT, Nat.reduceLeDiff, Nat.reduceLT, Int.reduceBEq, Int.reduceBNe, Int.reduceEq, Int.reduceNe, Int.reduceAdd, Int.reduceSub, Int.reduceMul, Int.reduceNeg, Int.reduceTDiv, Int.reduceTMod, Int.reduceMod, Int.reduceDiv, Nat.reduceMul, forall_const, implies_true, d_noriaref06_One, e1, q, k2, hcondQ]) | ((with_reducible refine And.intro ?_ ?_); · first | trivial | omega | (simp; done) | (simp; omega)) | ((first | ((with_reducible refine dwp_condI (t := ?_) ?_ (fun hcQ => ?_) (fun hcQ => ?_)); rotate_left; · rfl) | ((with_reducible refine dops_guardI (t := ?_) ?_ (fun hcQ => ?_) (fun hcQ => ?_)); rotate_left; · rfl)) <;> (have hn := hcQ; have hcondQ := hcQ) <;> (try simp only [decide_eq_true_eq, decide_eq_false_iff_not, beq_iff_eq, bne_iff_ne, ne_eq, Bool.and_eq_true, Bool.or_eq_true, Bool.not_eq_true, Bool.not_eq_false, beq_eq_false_iff_ne, bne_eq_false_iff_eq, Bool.not_eq_true', Bool.not_eq_false', Int.ofNat_lt, Int.ofNat_le, Bool.or_eq_false_iff, Bool.and_eq_false_imp, Decidable.not_not, gt_iff_lt, ge_iff_le] at hn) <;> (try (exfalso; omega)) <;> (refine Todo.of ?_)) | (((with_reducible refine dwp_condA ?_ ?_ ?_); · rfl) <;> (refine Todo.of ?_))))
    all_goals grind [oneV]
  · have k1 : (t.k == 1) = false := by simp [k]
    have k2 : (t.k == 2) = false := by simp [k]
    obtain ⟨i, hi, li⟩ := enum_at q k
    have g1 := en_getD li
    simp only [cEn] at g1
    have hv : oneV l t n = (decide (0 ≤ n) && decide (n < (l.getD i default).ct.length)) := by
      unfold oneV
      rw [if_neg (by omega), k1, hi]
      rfl
    rw [hv]
    rw [hi] at e1
    generalize l.getD i default = x at *
    (have hcondQ := Bool.and_self; refine Todo.of ?_; repeat' (first | ((with_reducible refine Todo.to ?_); try simp only [↓rP, rT, rU, eI, eU, eB, eS, eBs, eL, eA, buildCells, sepsD, sepB, hdl, dvalX, DOp.kind, dval, frameFrom, dBin, dInt, dStr, dBeq, dUn, dLoad, cellsAt, retV, retL, DR.val, fzT, fzVs, fzV, fz1, DV.immB, IntKind.bits, dCallP, viewVs, viewV, view1, capVL, capV, viewL, noMemV, noMem, elemsOf, dAppend, dAppz, dStore, DV.one, alive, freezeAt, fzLL, fzL, bRow, bU, cellsOf, setFrom, DV.isU, lenMax, lenCap, Nat.reduceEqDiff, Nat.reduceAdd, ↓reduceIte, reduceCtorEq, Nat.reduceSub, Int.reduceToNat, Int.reducePow, Nat.reducePow, Int.reduceLE, Int.reduceLT, Nat.reduceLeDiff, Nat.reduceLT, Int.reduceBEq, Int.reduceBNe, Int.reduceEq, Int.reduceNe, Int.reduceAdd, Int.reduceSub, Int.reduceMul, Int.reduceNeg, Int.reduceTDiv, Int.reduceTMod, Int.reduceMod, Int.reduceDiv, Nat.reduceMul, forall_const, implies_true, d_noriaref06_One, List.length_map, sls_len, e1, q, k1, k2, hi, li, g1, hcondQ]) | ((with_reducible refine And.intro ?_ ?_); · first | trivial | omega | (simp; done) | (simp; omega)) | ((first | ((with_reducible refine dwp_condI (t := ?_) ?_ (fun hcQ => ?_) (fun hcQ => ?_)); rotate_left; · rfl) | ((with_reducible refine dops_guardI (t := ?_) ?_ (fun hcQ => ?_) (fun hcQ => ?_)); rotate_left; · rfl)) <;> (have hn := hcQ; have hcondQ := hcQ) <;> (try simp only [decide_eq_true_eq, decide_eq_false_iff_not, beq_iff_eq, bne_iff_ne, ne_eq, Bool.and_eq_true, Bool.or_eq_true, Bool.not_eq_true, Bool.not_eq_false, beq_eq_false_iff_ne, bne_eq_false_iff_eq, Bool.not_eq_true', Bool.not_eq_false', Int.ofNat_lt, Int.ofNat_le, Bool.or_eq_false_iff, Bool.and_eq_false_imp, Decidable.not_not, gt_iff_lt, ge_iff_le] at hn) <;> (try (exfalso; omega)) <;> (refine Todo.of ?_)) | (((with_reducible refine dwp_condA ?_ ?_ ?_); · rfl) <;> (refine Todo.of ?_))))
    all_goals grind
theorem ok_One : OkP Tryd.prog 15 s_One := by
  refine OkP.mk3 (ps := [(29, s_RightTy)]) (hs := []) ⟨ok_RightTy, trivial⟩ trivial m_val_One fun l t n _ => ?_
  have e1 := s_RightTy_at l t
  simp only [cTy] at e1
  by_cases q : rightTy l t = true
  rotate_left
  · (have hcondQ := Bool.and_self; refine Todo.of ?_; repeat' (first | ((with_reducible refine Todo.to ?_); try simp only [↓rP, rT, rU, eI, eU, eB, eS, eBs, eL, eA, buildCells, sepsD, sepB, hdl, dvalX, DOp.kind, dval, frameFrom, dBin, dInt, dStr, dBeq, dUn, dLoad, cellsAt, retV, retL, DR.val, fzT, fzVs, fzV, fz1, DV.immB, IntKind.bits, dCallP, viewVs, viewV, view1, capVL, capV, viewL, noMemV, noMem, elemsOf, dAppend, dAppz, dStore, DV.one, alive, freezeAt, fzLL, fzL, bRow, bU, cellsOf, setFrom, DV.isU, lenMax, lenCap, Nat.reduceEqDiff, Nat.reduceAdd, ↓reduceIte, reduceCtorEq, Nat.reduceSub, Int.reduceToNat, Int.reducePow, Nat.reducePow, Int.reduceLE, Int.reduceLT, Nat.reduceLeDiff, Nat.reduceLT, Int.reduceBEq, Int.reduceBNe, Int.reduceEq, Int.reduceNe, Int.reduceAdd, Int.reduceSub, Int.reduceMul, Int.reduceNeg, Int.reduceTDiv, Int.reduceTMod, Int.reduceMod, Int.reduceDiv, Nat.reduceMul, forall_const, implies_true, d_val_One, e1, q, hcondQ]) | ((with_reducible refine And.intro ?_ ?_); · first | trivial | omega | (simp; done) | (simp; omega)) | ((first | ((with_reducible refine dwp_condI (t := ?_) ?_ (fun hcQ => ?_) (fun hcQ => ?_)); rotate_left; · rfl) | ((with_reducible refine dops_guardI (t := ?_) ?_ (fun hcQ => ?_) (fun hcQ => ?_)); rotate_left; · rfl)) <;> (have hn := hcQ; have hcondQ := hcQ) <;> (try simp only [decide_eq_true_eq, decide_eq_false_iff_not, beq_iff_eq, bne_iff_ne, ne_eq, Bool.and_eq_true, Bool.or_eq_true, Bool.not_eq_true, Bool.not_eq_false, beq_eq_false_iff_ne, bne_eq_false_iff_eq, Bool.not_eq_true', Bool.not_eq_false', Int.ofNat_lt, Int.ofNat_le, Bool.or_eq_false_iff, Bool.and_eq_false_imp, Decidable.not_not, gt_iff_lt, ge_iff_le] at hn) <;> (try (exfalso; omega)) <;> (refine Todo.of ?_)) | (((with_reducible refine dwp_condA ?_ ?_ ?_); · rfl) <;> (refine Todo.of ?_))))
    all_goals grind [oneF]
  have hr : oneF l t n = oneV l t n := by simp [oneF, q]
  rw [hr]
  rcases kind_at q with k | k | k
  · have k3 : (t.k == 3) = false := by simp [k]
    have k2 : (t.k == 2) = false := by simp [k]
    (have hcondQ := Bool.and_self; refine Todo.of ?_; repeat' (first | ((with_reducible refine Todo.to ?_); try simp only [↓rP, rT, rU, eI, eU, eB, eS, eBs, eL, eA, buildCells, sepsD, sepB, hdl, dvalX, DOp.kind, dval, frameFrom, dBin, dInt, dStr, dBeq, dUn, dLoad, cellsAt, retV, retL, DR.val, fzT, fzVs, fzV, fz1, DV.immB, IntKind.bits, dCallP, viewVs, viewV, view1, capVL, capV, viewL, noMemV, noMem, elemsOf, dAppend, dAppz, dStore, DV.one, alive, freezeAt, fzLL, fzL, bRow, bU, cellsOf, setFrom, DV.isU, lenMax, lenCap, Nat.reduceEqDiff, Nat.reduceAdd, ↓reduceIte, reduceCtorEq, Nat.reduceSub, Int.reduceToNat, Int.reducePow, Nat.reducePow, Int.reduceLE, Int.reduceLT, Nat.reduceLeDiff, Nat.reduceLT, Int.reduceBEq, Int.reduceBNe, Int.reduceEq, Int.reduceNe, Int.reduceAdd, Int.reduceSub, Int.reduceMul, Int.reduceNeg, Int.reduceTDiv, Int.reduceTMod, Int.reduceMod, Int.reduceDiv, Nat.reduceMul, forall_const, implies_true, d_val_One, e1, q, k2, k3, hcondQ]) | ((with_reducible refine And.intro ?_ ?_); · first | trivial | omega | (simp; done) | (simp; omega)) | ((first | ((with_reducible refine dwp_condI (t := ?_) ?_ (fun hcQ => ?_) (fun hcQ => ?_)); rotate_left; · rfl) | ((with_reducible refine dops_guardI (t := ?_) ?_ (fun hcQ => ?_) (fun hcQ => ?_)); rotate_left; · rfl)) <;> (have hn := hcQ; have hcondQ := hcQ) <;> (try simp only [decide_eq_true_eq, decide_eq_false_iff_not, beq_iff_eq, bne_iff_ne, ne_eq, Bool.and_eq_true, Bool.or_eq_true, Bool.not_eq_true, Bool.not_eq_false, beq_eq_false_iff_ne, bne_eq_false_iff_eq, Bool.not_eq_true', Bool.not_eq_false', Int.ofNat_lt, Int.ofNat_le, Bool.or_eq_false_iff, Bool.and_eq_false_imp, Decidable.not_not, gt_iff_lt, ge_iff_le] at hn) <;> (try (exfalso; omega)) <;> (refine Todo.of ?_)) | (((with_reducible refine dwp_condA ?_ ?_ ?_); · rfl) <;> (refine Todo.of ?_))))
    all_goals grind [oneV]
  · have k2 : (t.k == 2) = true := by simp [k]
    (have hcondQ := Bool.and_self; refine Todo.of ?_; repeat' (first | ((with_reducible refine Todo.to ?_); try simp only [↓rP, rT, rU, eI, eU, eB, eS, eBs, eL, eA, buildCells, sepsD, sepB, hdl, dvalX, DOp.kind, dval, frameFrom, dBin, dInt, dStr, dBeq, dUn, dLoad, cellsAt, retV, retL, DR.val, fzT, fzVs, fzV, fz1, DV.immB, IntKind.bits, dCallP, viewVs, viewV, view1, capVL, capV, viewL, noMemV, noMem, elemsOf, dAppend, dAppz, dStore, DV.one, alive, freezeAt, fzLL, fzL, bRow, bU, cellsOf, setFrom, DV.isU, lenMax, lenCap, Nat.reduceEqDiff, Nat.reduceAdd, ↓reduceIte, reduceCtorEq, Nat.reduceSub, Int.reduceToNat, Int.reducePow, Nat.reducePow, Int.reduceLE, Int.reduceLT, Nat.reduceLeDiff, Nat.reduceLT, Int.reduceBEq, Int.reduceBNe, Int.reduceEq, Int.reduceNe, Int.reduceAdd, Int.reduceSub, Int.reduceMul, Int.reduceNeg, Int.reduceTDiv, Int.reduceTMod, Int.reduceMod, Int.reduceDiv, Nat.reduceMul, forall_const, implies_true, d_val_One, e1, q, k2, hcondQ]) | ((with_reducible refine And.intro ?_ ?_); · first | trivial | omega | (simp; done) | (simp; omega)) | ((first | ((with_reducible refine dwp_condI (t := ?_) ?_ (fun hcQ => ?_) (fun hcQ => ?_)); rotate_left; · rfl) | ((with_reducible refine dops_guardI (t := ?_) ?_ (fun hcQ => ?_) (fun hcQ => ?_)); rotate_left; · rfl)) <;> (have hn := hcQ; have hcondQ := hcQ) <;> (try simp only [decide_eq_true_eq, decide_eq_false_iff_not, beq_iff_eq, bne_iff_ne, ne_eq, Bool.and_eq_true, Bool.or_eq_true, Bool.not_eq_true, Bool.not_eq_false, beq_eq_false_iff_ne, bne_eq_false_iff_eq, Bool.not_eq_true', Bool.not_eq_false', Int.ofNat_lt, Int.ofNat_le, Bool.or_eq_false_iff, Bool.and_eq_false_imp, Decidable.not_not, gt_iff_lt, ge_iff_le] at hn) <;> (try (exfalso; omega)) <;> (refine Todo.of ?_)) | (((with_reducible refine dwp_condA ?_ ?_ ?_); · rfl) <;> (refine Todo.of ?_))))
    all_goals grind [oneV]
  · have k1 : (t.k == 1) = false := by simp [k]
    have k2 : (t.k == 2) = false := by simp [k]
    have k3 : (t.k == 3) = true := by simp [k]
    obtain ⟨i, hi, li⟩ := enum_at q k
    have g1 := en_getD li
    simp only [cEn] at g1
    have hv : oneV l t n = (decide (0 ≤ n) && decide (n < (l.getD i default).ct.length)) := by
      unfold oneV
      rw [if_neg (by omega), k1, hi]
      rfl
    rw [hv]
    rw [hi] at e1
    generalize l.getD i default = x at *
    (have hcondQ := Bool.and_self; refine Todo.of ?_; repeat' (first | ((with_reducible refine Todo.to ?_); try simp only [↓rP, rT, rU, eI, eU, eB, eS, eBs, eL, eA, buildCells, sepsD, sepB, hdl, dvalX, DOp.kind, dval, frameFrom, dBin, dInt, dStr, dBeq, dUn, dLoad, cellsAt, retV, retL, DR.val, fzT, fzVs, fzV, fz1, DV.immB, IntKind.bits, dCallP, viewVs, viewV, view1, capVL, capV, viewL, noMemV, noMem, elemsOf, dAppend, dAppz, dStore, DV.one, alive, freezeAt, fzLL, fzL, bRow, bU, cellsOf, setFrom, DV.isU, lenMax, lenCap, Nat.reduceEqDiff, Nat.reduceAdd, ↓reduceIte, reduceCtorEq, Nat.reduceSub, Int.reduceToNat, Int.reducePow, Nat.reducePow, Int.reduceLE, Int.reduceLT, Nat.reduceLeDiff, Nat.reduceLT, Int.reduceBEq, Int.reduceBNe, Int.reduceEq, Int.reduceNe, Int.reduceAdd, Int.reduceSub, Int.reduceMul, Int.reduceNeg, Int.reduceTDiv, Int.reduceTMod, Int.reduceMod, Int.reduceDiv, Nat.reduceMul, forall_const, implies_true, d_val_One, List.length_map, sls_len, e1, q, k2, k3, hi, li, g1, hcondQ]) | ((with_reducible refine And.intro ?_ ?_); · first | trivial | omega | (simp; done) | (simp; omega)) | ((first | ((with_reducible refine dwp_condI (t := ?_) ?_ (fun hcQ => ?_) (fun hcQ => ?_)); rotate_left; · rfl) | ((with_reducible refine dops_guardI (t := ?_) ?_ (fun hcQ => ?_) (fun hcQ => ?_)); rotate_left; · rfl)) <;> (have hn := hcQ; have hcondQ := hcQ) <;> (try simp only [decide_eq_true_eq, decide_eq_false_iff_not, beq_iff_eq, bne_iff_ne, ne_eq, Bool.and_eq_true, Bool.or_eq_true, Bool.not_eq_true, Bool.not_eq_false, beq_eq_false_iff_ne, bne_eq_false_iff_eq, Bool.not_eq_true', Bool.not_eq_false', Int.ofNat_lt, Int.ofNat_le, Bool.or_eq_false_iff, Bool.and_eq_false_imp, Decidable.not_not, gt_iff_lt, ge_iff_le] at hn) <;> (try (exfalso; omega)) <;> (refine Todo.of ?_)) | (((with_reducible refine dwp_condA ?_ ?_ ?_); · rfl) <;> (refine Todo.of ?_))))
    all_goals grind

/-- The property that a value's number is not of a type. -/
@[reducible] def eNot (x : List En × Ty) : DV := .clo 28 [.ref [.sl (x.1.map cEn)], .ref (cTy x.2)]
theorem inj_Not : Inj eNot := fun x y h => by
  obtain ⟨x1, x2⟩ := x; obtain ⟨y1, y2⟩ := y
  simp only [eNot, DV.clo.injEq, true_and] at h
  injection h with h1 h2
  injection h2 with h2 _
  injection h1 with h1
  injection h1 with h1 _
  injection h1 with h1
  injection h2 with h2
  rw [map_inj cEn_inj _ _ h1, cTy_inj _ _ h2]
@[reducible] def eREns (l : List En) : DV := .ref [.sl (l.map cEn)]
theorem inj_REns : Inj eREns := fun _ _ h => by
  injection h with h
  injection h with h _
  injection h with h
  exact map_inj cEn_inj _ _ h
@[reducible] def eRTy (t : Ty) : DV := .ref (cTy t)
theorem inj_RTy : Inj eRTy := fun _ _ h => by
  injection h with h
  exact cTy_inj _ _ h
noncomputable def s_Not1 : List DV → Prop × DV := spec3 eI eREns eRTy fun n l t => (True, .bool (!oneF l t n))
theorem s_Not1_at (n : Int) (l : List En) (t : Ty) : s_Not1 [.int .i64 n, .ref [.sl (l.map cEn)], .ref (cTy t)] = (True, .bool (!oneF l t n)) := spec3_at inj_I inj_REns inj_RTy _ _ _ _
theorem ok_Not1 : OkP Tryd.prog 28 s_Not1 := by
  refine OkP.mk3 (ps := [(15, s_One)]) (hs := []) ⟨ok_One, trivial⟩ trivial m_val_Right_1 fun n l t _ => ?_
  have e1 := s_One_at l t n
  simp only [cTy] at e1
  (have hcondQ := Bool.and_self; refine Todo.of ?_; repeat' (first | ((with_reducible refine Todo.to ?_); try simp only [↓rP, rT, rU, eI, eU, eB, eS, eBs, eL, eA, buildCells, sepsD, sepB, hdl, dvalX, DOp.kind, dval, frameFrom, dBin, dInt, dStr, dBeq, dUn, dLoad, cellsAt, retV, retL, DR.val, fzT, fzVs, fzV, fz1, DV.immB, IntKind.bits, dCallP, viewVs, viewV, view1, capVL, capV, viewL, noMemV, noMem, elemsOf, dAppend, dAppz, dStore, DV.one, alive, freezeAt, fzLL, fzL, bRow, bU, cellsOf, setFrom, DV.isU, lenMax, lenCap, Nat.reduceEqDiff, Nat.reduceAdd, ↓reduceIte, reduceCtorEq, Nat.reduceSub, Int.reduceToNat, Int.reducePow, Nat.reducePow, Int.reduceLE, Int.reduceLT, Nat.reduceLeDiff, Nat.reduceLT, Int.reduceBEq, Int.reduceBNe, Int.reduceEq, Int.reduceNe, Int.reduceAdd, Int.reduceSub, Int.reduceMul, Int.reduceNeg, Int.reduceTDiv, Int.reduceTMod, Int.reduceMod, Int.reduceDiv, Nat.reduceMul, forall_const, implies_true, d_val_Right_1, e1, hcondQ]) | ((with_reducible refine And.intro ?_ ?_); · first | trivial | omega | (simp; done) | (simp; omega)) | ((first | ((with_reducible refine dwp_condI (t := ?_) ?_ (fun hcQ => ?_) (fun hcQ => ?_)); rotate_left; · rfl) | ((with_reducible refine dops_guardI (t := ?_) ?_ (fun hcQ => ?_) (fun hcQ => ?_)); rotate_left; · rfl)) <;> (have hn := hcQ; have hcondQ := hcQ) <;> (try simp only [decide_eq_true_eq, decide_eq_false_iff_not, beq_iff_eq, bne_iff_ne, ne_eq, Bool.and_eq_true, Bool.or_eq_true, Bool.not_eq_true, Bool.not_eq_false, beq_eq_false_iff_ne, bne_eq_false_iff_eq, Bool.not_eq_true', Bool.not_eq_false', Int.ofNat_lt, Int.ofNat_le, Bool.or_eq_false_iff, Bool.and_eq_false_imp, Decidable.not_not, gt_iff_lt, ge_iff_le] at hn) <;> (try (exfalso; omega)) <;> (refine Todo.of ?_)) | (((with_reducible refine dwp_condA ?_ ?_ ?_); · rfl) <;> (refine Todo.of ?_))))
def notF (x : List En × Ty) (n : Int) : Bool := !oneF x.1 x.2 n
noncomputable def s_Idx64 : List DV → Prop × DV := spec2 eIls eNot fun l x => (l.length ≤ 1000000000, .int .i64 (ixF (notF x) l))
theorem s_Idx64_at (l : List Int) (a : List En) (t : Ty) : s_Idx64 [.sl (ils l), .clo 28 [.ref [.sl (a.map cEn)], .ref (cTy t)]] = (l.length ≤ 1000000000, .int .i64 (ixF (notF (a, t)) l)) := spec2_at inj_Ils inj_Not _ l (a, t)
theorem ok_Idx64 : OkP Tryd.prog 45 s_Idx64 := by
  refine OkP.mk2 (ps := [(28, s_Not1)]) (hs := []) ⟨ok_Not1, trivial⟩ trivial m_slices_IndexFunc_int64_int64 fun l x h => ?_
  obtain ⟨a, t⟩ := x
  (have hcondQ := Bool.and_self; refine Todo.of ?_; repeat' (first | ((with_reducible refine Todo.to ?_); try simp only [↓rP, rT, rU, eI, eU, eB, eS, eBs, eL, eA, buildCells, sepsD, sepB, hdl, dvalX, DOp.kind, dval, frameFrom, dBin, dInt, dStr, dBeq, dUn, dLoad, cellsAt, retV, retL, DR.val, fzT, fzVs, fzV, fz1, DV.immB, IntKind.bits, dCallP, viewVs, viewV, view1, capVL, capV, viewL, noMemV, noMem, elemsOf, dAppend, dAppz, dStore, DV.one, alive, freezeAt, fzLL, fzL, bRow, bU, cellsOf, setFrom, DV.isU, lenMax, lenCap, Nat.reduceEqDiff, Nat.reduceAdd, ↓reduceIte, reduceCtorEq, Nat.reduceSub, Int.reduceToNat, Int.reducePow, Nat.reducePow, Int.reduceLE, Int.reduceLT, Nat.reduceLeDiff, Nat.reduceLT, Int.reduceBEq, Int.reduceBNe, Int.reduceEq, Int.reduceNe, Int.reduceAdd, Int.reduceSub, Int.reduceMul, Int.reduceNeg, Int.reduceTDiv, Int.reduceTMod, Int.reduceMod, Int.reduceDiv, Nat.reduceMul, forall_const, implies_true, d_slices_IndexFunc_int64_int64, eIls, ils_len, hcondQ]) | ((with_reducible refine And.intro ?_ ?_); · first | trivial | omega | (simp; done) | (simp; omega)) | ((first | ((with_reducible refine dwp_condI (t := ?_) ?_ (fun hcQ => ?_) (fun hcQ => ?_)); rotate_left; · rfl) | ((with_reducible refine dops_guardI (t := ?_) ?_ (fun hcQ => ?_) (fun hcQ => ?_)); rotate_left; · rfl)) <;> (have hn := hcQ; have hcondQ := hcQ) <;> (try simp only [decide_eq_true_eq, decide_eq_false_iff_not, beq_iff_eq, bne_iff_ne, ne_eq, Bool.and_eq_true, Bool.or_eq_true, Bool.not_eq_true, Bool.not_eq_false, beq_eq_false_iff_ne, bne_eq_false_iff_eq, Bool.not_eq_true', Bool.not_eq_false', Int.ofNat_lt, Int.ofNat_le, Bool.or_eq_false_iff, Bool.and_eq_false_imp, Decidable.not_not, gt_iff_lt, ge_iff_le] at hn) <;> (try (exfalso; omega)) <;> (refine Todo.of ?_)) | (((with_reducible refine dwp_condA ?_ ?_ ?_); · rfl) <;> (refine Todo.of ?_))))
  refine dwp_loop (fun k : Nat => ⟨[(0, .sl (ils l)), (1, .clo 28 [.ref [.sl (a.map cEn)], .ref (cTy t)]), (7, .int .i64 l.length), (8, .int .i64 k)], []⟩) (fun k => k ≤ l.length ∧ ∀ x ∈ l.take k, notF (a, t) x = false) (fun k => l.length - k) 0 (by exact Nat.zero_le _) ?_ ⟨Nat.zero_le _, by simp⟩ fun k hk => ?_
  · simp only [cut_some, cut_none, List.map_cons, List.map_nil, get_cons, Nk.get_nil, Nat.reduceEqDiff, ↓reduceIte, Nat.succ_ne_self, DV.cut, DV.inB, DObj.cut, List.take_nil, List.take_zero, if_true, Nat.zero_ne_one, Nat.one_ne_zero, DV.inBL, Bool.and_true, Bool.true_and, reduceCtorEq, Nat.zero_lt_one, decide_true, decide_false, Nat.reduceLT, List.take_succ_cons]
    rfl
  obtain ⟨hk, ht⟩ := hk
  have hl : l.length ≤ 1000000000 := h
  by_cases d : k < l.length
  · have w : IntKind.i64.wrap ((k : Int) + 1) = ((k + 1 : Nat) : Int) := by rw [wrap_i64_id (by omega)]; omega
    have e1 := ils_getD d
    have e2 := s_Not1_at (l.getD k 0) a t
    simp only [cTy] at e2
    (have hcondQ := Bool.and_self; refine Todo.of ?_; repeat' (first | ((with_reducible refine Todo.to ?_); try simp only [↓rP, rT, rU, eI, eU, eB, eS, eBs, eL, eA, buildCells, sepsD, sepB, hdl, dvalX, DOp.kind, dval, frameFrom, dBin, dInt, dStr, dBeq, dUn, dLoad, cellsAt, retV, retL, DR.val, fzT, fzVs, fzV, fz1, DV.immB, IntKind.bits, dCallP, viewVs, viewV, view1, capVL, capV, viewL, noMemV, noMem, elemsOf, dAppend, dAppz, dStore, DV.one, alive, freezeAt, fzLL, fzL, bRow, bU, cellsOf, setFrom, DV.isU, lenMax, lenCap, Nat.reduceEqDiff, Nat.reduceAdd, ↓reduceIte, reduceCtorEq, Nat.reduceSub, Int.reduceToNat, Int.reducePow, Nat.reducePow, Int.reduceLE, Int.reduceLT, Nat.reduceLeDiff, Nat.reduceLT, Int.reduceBEq, Int.reduceBNe, Int.reduceEq, Int.reduceNe, Int.reduceAdd, Int.reduceSub, Int.reduceMul, Int.reduceNeg, Int.reduceTDiv, Int.reduceTMod, Int.reduceMod, Int.reduceDiv, Nat.reduceMul, forall_const, implies_true, d_slices_IndexFunc_int64_int64, ils_len, e1, e2, d, w, hcondQ]) | ((with_reducible refine And.intro ?_ ?_); · first | trivial | omega | (simp; done) | (simp; omega)) | ((first | ((with_reducible refine dwp_condI (t := ?_) ?_ (fun hcQ => ?_) (fun hcQ => ?_)); rotate_left; · rfl) | ((with_reducible refine dops_guardI (t := ?_) ?_ (fun hcQ => ?_) (fun hcQ => ?_)); rotate_left; · rfl)) <;> (have hn := hcQ; have hcondQ := hcQ) <;> (try simp only [decide_eq_true_eq, decide_eq_false_iff_not, beq_iff_eq, bne_iff_ne, ne_eq, Bool.and_eq_true, Bool.or_eq_true, Bool.not_eq_true, Bool.not_eq_false, beq_eq_false_iff_ne, bne_eq_false_iff_eq, Bool.not_eq_true', Bool.not_eq_false', Int.ofNat_lt, Int.ofNat_le, Bool.or_eq_false_iff, Bool.and_eq_false_imp, Decidable.not_not, gt_iff_lt, ge_iff_le] at hn) <;> (try (exfalso; omega)) <;> (refine Todo.of ?_)) | (((with_reducible refine dwp_condA ?_ ?_ ?_); · rfl) <;> (refine Todo.of ?_))))
    · rw [ixF_at d ht (by simp_all [notF])]
    · refine ⟨k + 1, ?_, ⟨by omega, take_noI d ht (by simp_all [notF])⟩, by omega⟩
      simp only [cut_some, cut_none, List.map_cons, List.map_nil, get_cons, Nk.get_nil, Nat.reduceEqDiff, ↓reduceIte, Nat.succ_ne_self, DV.cut, DV.inB, DObj.cut, List.take_nil, List.take_zero, if_true, Nat.zero_ne_one, Nat.one_ne_zero, DV.inBL, Bool.and_true, Bool.true_and, reduceCtorEq, Nat.zero_lt_one, decide_true, decide_false, Nat.reduceLT, List.take_succ_cons]
  · have e : ixF (notF (a, t)) l = -1 := ixF_no (by
      have hk2 : k = l.length := by omega
      rw [hk2, List.take_length] at ht
      exact ht)
    (have hcondQ := Bool.and_self; refine Todo.of ?_; repeat' (first | ((with_reducible refine Todo.to ?_); try simp only [↓rP, rT, rU, eI, eU, eB, eS, eBs, eL, eA, buildCells, sepsD, sepB, hdl, dvalX, DOp.kind, dval, frameFrom, dBin, dInt, dStr, dBeq, dUn, dLoad, cellsAt, retV, retL, DR.val, fzT, fzVs, fzV, fz1, DV.immB, IntKind.bits, dCallP, viewVs, viewV, view1, capVL, capV, viewL, noMemV, noMem, elemsOf, dAppend, dAppz, dStore, DV.one, alive, freezeAt, fzLL, fzL, bRow, bU, cellsOf, setFrom, DV.isU, lenMax, lenCap, Nat.reduceEqDiff, Nat.reduceAdd, ↓reduceIte, reduceCtorEq, Nat.reduceSub, Int.reduceToNat, Int.reducePow, Nat.reducePow, Int.reduceLE, Int.reduceLT, Nat.reduceLeDiff, Nat.reduceLT, Int.reduceBEq, Int.reduceBNe, Int.reduceEq, Int.reduceNe, Int.reduceAdd, Int.reduceSub, Int.reduceMul, Int.reduceNeg, Int.reduceTDiv, Int.reduceTMod, Int.reduceMod, Int.reduceDiv, Nat.reduceMul, forall_const, implies_true, d_slices_IndexFunc_int64_int64, ils_len, d, e, hcondQ]) | ((with_reducible refine And.intro ?_ ?_); · first | trivial | omega | (simp; done) | (simp; omega)) | ((first | ((with_reducible refine dwp_condI (t := ?_) ?_ (fun hcQ => ?_) (fun hcQ => ?_)); rotate_left; · rfl) | ((with_reducible refine dops_guardI (t := ?_) ?_ (fun hcQ => ?_) (fun hcQ => ?_)); rotate_left; · rfl)) <;> (have hn := hcQ; have hcondQ := hcQ) <;> (try simp only [decide_eq_true_eq, decide_eq_false_iff_not, beq_iff_eq, bne_iff_ne, ne_eq, Bool.and_eq_true, Bool.or_eq_true, Bool.not_eq_true, Bool.not_eq_false, beq_eq_false_iff_ne, bne_eq_false_iff_eq, Bool.not_eq_true', Bool.not_eq_false', Int.ofNat_lt, Int.ofNat_le, Bool.or_eq_false_iff, Bool.and_eq_false_imp, Decidable.not_not, gt_iff_lt, ge_iff_le] at hn) <;> (try (exfalso; omega)) <;> (refine Todo.of ?_)) | (((with_reducible refine dwp_condA ?_ ?_ ?_); · rfl) <;> (refine Todo.of ?_))))
noncomputable def s_Cont64 : List DV → Prop × DV := spec2 eIls eNot fun l x => (l.length ≤ 1000000000, .bool (l.any (notF x)))
theorem s_Cont64_at (l : List Int) (a : List En) (t : Ty) : s_Cont64 [.sl (ils l), .clo 28 [.ref [.sl (a.map cEn)], .ref (cTy t)]] = (l.length ≤ 1000000000, .bool (l.any (notF (a, t)))) := spec2_at inj_Ils inj_Not _ l (a, t)
theorem ok_Cont64 : OkP Tryd.prog 31 s_Cont64 := by
  refine OkP.mk2 (ps := [(45, s_Idx64)]) (hs := []) ⟨ok_Idx64, trivial⟩ trivial m_slices_ContainsFunc_int64_int64 fun l x h => ?_
  obtain ⟨a, t⟩ := x
  have e := s_Idx64_at l a t
  have e2 := ixF_ge (notF (a, t)) l
  rw [eq_true (show l.length ≤ 1000000000 from h)] at e
  simp only [cTy] at e
  (have hcondQ := Bool.and_self; refine Todo.of ?_; repeat' (first | ((with_reducible refine Todo.to ?_); try simp only [↓rP, rT, rU, eI, eU, eB, eS, eBs, eL, eA, buildCells, sepsD, sepB, hdl, dvalX, DOp.kind, dval, frameFrom, dBin, dInt, dStr, dBeq, dUn, dLoad, cellsAt, retV, retL, DR.val, fzT, fzVs, fzV, fz1, DV.immB, IntKind.bits, dCallP, viewVs, viewV, view1, capVL, capV, viewL, noMemV, noMem, elemsOf, dAppend, dAppz, dStore, DV.one, alive, freezeAt, fzLL, fzL, bRow, bU, cellsOf, setFrom, DV.isU, lenMax, lenCap, Nat.reduceEqDiff, Nat.reduceAdd, ↓reduceIte, reduceCtorEq, Nat.reduceSub, Int.reduceToNat, Int.reducePow, Nat.reducePow, Int.reduceLE, Int.reduceLT, Nat.reduceLeDiff, Nat.reduceLT, Int.reduceBEq, Int.reduceBNe, Int.reduceEq, Int.reduceNe, Int.reduceAdd, Int.reduceSub, Int.reduceMul, Int.reduceNeg, Int.reduceTDiv, Int.reduceTMod, Int.reduceMod, Int.reduceDiv, Nat.reduceMul, forall_const, implies_true, d_slices_ContainsFunc_int64_int64, eIls, e, e2, hcondQ]) | ((with_reducible refine And.intro ?_ ?_); · first | trivial | omega | (simp; done) | (simp; omega)) | ((first | ((with_reducible refine dwp_condI (t := ?_) ?_ (fun hcQ => ?_) (fun hcQ => ?_)); rotate_left; · rfl) | ((with_reducible refine dops_guardI (t := ?_) ?_ (fun hcQ => ?_) (fun hcQ => ?_)); rotate_left; · rfl)) <;> (have hn := hcQ; have hcondQ := hcQ) <;> (try simp only [decide_eq_true_eq, decide_eq_false_iff_not, beq_iff_eq, bne_iff_ne, ne_eq, Bool.and_eq_true, Bool.or_eq_true, Bool.not_eq_true, Bool.not_eq_false, beq_eq_false_iff_ne, bne_eq_false_iff_eq, Bool.not_eq_true', Bool.not_eq_false', Int.ofNat_lt, Int.ofNat_le, Bool.or_eq_false_iff, Bool.and_eq_false_imp, Decidable.not_not, gt_iff_lt, ge_iff_le] at hn) <;> (try (exfalso; omega)) <;> (refine Todo.of ?_)) | (((with_reducible refine dwp_condA ?_ ?_ ?_); · rfl) <;> (refine Todo.of ?_))))
end Go.Proofs.YtaoabkpfidbogaaDoor

/- Which lists of numbers a type has; how many numbers what is kept has, and what is kept at first. -/
set_option linter.all false
set_option maxRecDepth 20000
namespace Go.Proofs.YtaoabkpfidbogaaDoor
open Go.Nk

def rightV (l : List En) (t : Ty) (v : List Int) : Bool := rightTy l t && (v.length : Int) == cellsTy t && v.all (oneF l t)
noncomputable def s_RightV : List DV → Prop × DV := spec3 eEns eTy eIls fun l t v => (v.length ≤ 1000000000, .bool (rightV l t v))
theorem s_RightV_at (l : List En) (t : Ty) (v : List Int) : s_RightV [.sl (l.map cEn), .agg (cTy t), .sl (ils v)] = (v.length ≤ 1000000000, .bool (rightV l t v)) := spec3_at inj_Ens inj_Ty inj_Ils _ _ _ _
theorem any_notF (l : List En) (t : Ty) (v : List Int) : v.any (notF (l, t)) = !(v.all (oneF l t)) := by
  rw [List.not_all_eq_any_not]
  rfl
theorem ok_RightV : OkP Tryd.prog 12 s_RightV := by
  refine OkP.mk3 (ps := [(29, s_RightTy), (30, s_CellsTy), (31, s_Cont64)]) (hs := []) ⟨ok_RightTy, ok_CellsTy, ok_Cont64, trivial⟩ trivial m_val_Right fun l t v h => ?_
  have e1 := s_RightTy_at l t
  have e2 := s_CellsTy_at t
  have e3 := s_Cont64_at v l t
  rw [eq_true (show v.length ≤ 1000000000 from h), any_notF] at e3
  simp only [cTy] at e1 e2 e3
  (have hcondQ := Bool.and_self; refine Todo.of ?_; repeat' (first | ((with_reducible refine Todo.to ?_); try simp only [↓rP, rT, rU, eI, eU, eB, eS, eBs, eL, eA, buildCells, sepsD, sepB, hdl, dvalX, DOp.kind, dval, frameFrom, dBin, dInt, dStr, dBeq, dUn, dLoad, cellsAt, retV, retL, DR.val, fzT, fzVs, fzV, fz1, DV.immB, IntKind.bits, dCallP, viewVs, viewV, view1, capVL, capV, viewL, noMemV, noMem, elemsOf, dAppend, dAppz, dStore, DV.one, alive, freezeAt, fzLL, fzL, bRow, bU, cellsOf, setFrom, DV.isU, lenMax, lenCap, Nat.reduceEqDiff, Nat.reduceAdd, ↓reduceIte, reduceCtorEq, Nat.reduceSub, Int.reduceToNat, Int.reducePow, Nat.reducePow, Int.reduceLE, Int.reduceLT, Nat.reduceLeDiff, Nat.reduceLT, Int.reduceBEq, Int.reduceBNe, Int.reduceEq, Int.reduceNe, Int.reduceAdd, Int.reduceSub, Int.reduceMul, Int.reduceNeg, Int.reduceTDiv, Int.reduceTMod, Int.reduceMod, Int.reduceDiv, Nat.reduceMul, forall_const, implies_true, d_val_Right, ils_len, e1, e2, e3, hcondQ]) | ((with_reducible refine And.intro ?_ ?_); · first | trivial | omega | (simp; done) | (simp; omega)) | ((first | ((with_reducible refine dwp_condI (t := ?_) ?_ (fun hcQ => ?_) (fun hcQ => ?_)); rotate_left; · rfl) | ((with_reducible refine dops_guardI (t := ?_) ?_ (fun hcQ => ?_) (fun hcQ => ?_)); rotate_left; · rfl)) <;> (have hn := hcQ; have hcondQ := hcQ) <;> (try simp only [decide_eq_true_eq, decide_eq_false_iff_not, beq_iff_eq, bne_iff_ne, ne_eq, Bool.and_eq_true, Bool.or_eq_true, Bool.not_eq_true, Bool.not_eq_false, beq_eq_false_iff_ne, bne_eq_false_iff_eq, Bool.not_eq_true', Bool.not_eq_false', Int.ofNat_lt, Int.ofNat_le, Bool.or_eq_false_iff, Bool.and_eq_false_imp, Decidable.not_not, gt_iff_lt, ge_iff_le] at hn) <;> (try (exfalso; omega)) <;> (refine Todo.of ?_)) | (((with_reducible refine dwp_condA ?_ ?_ ?_); · rfl) <;> (refine Todo.of ?_))))
  all_goals grind [rightV]
theorem ok_refRightV : OkP Tryd.prog 17 s_RightV := by
  refine OkP.mk3 (ps := [(11, s_RightTy), (32, s_CellsTy), (16, s_One)]) (hs := []) ⟨ok_refRightTy, ok_refCellsTy, ok_refOne, trivial⟩ trivial m_noriaref06_Right fun l t v h => ?_
  have e1 := s_RightTy_at l t
  have e2 := s_CellsTy_at t
  simp only [cTy] at e1 e2
  by_cases q : rightTy l t = true ∧ (v.length : Int) = cellsTy t
  rotate_left
  · (have hcondQ := Bool.and_self; refine Todo.of ?_; repeat' (first | ((with_reducible refine Todo.to ?_); try simp only [↓rP, rT, rU, eI, eU, eB, eS, eBs, eL, eA, buildCells, sepsD, sepB, hdl, dvalX, DOp.kind, dval, frameFrom, dBin, dInt, dStr, dBeq, dUn, dLoad, cellsAt, retV, retL, DR.val, fzT, fzVs, fzV, fz1, DV.immB, IntKind.bits, dCallP, viewVs, viewV, view1, capVL, capV, viewL, noMemV, noMem, elemsOf, dAppend, dAppz, dStore, DV.one, alive, freezeAt, fzLL, fzL, bRow, bU, cellsOf, setFrom, DV.isU, lenMax, lenCap, Nat.reduceEqDiff, Nat.reduceAdd, ↓reduceIte, reduceCtorEq, Nat.reduceSub, Int.reduceToNat, Int.reducePow, Nat.reducePow, Int.reduceLE, Int.reduceLT, Nat.reduceLeDiff, Nat.reduceLT, Int.reduceBEq, Int.reduceBNe, Int.reduceEq, Int.reduceNe, Int.reduceAdd, Int.reduceSub, Int.reduceMul, Int.reduceNeg, Int.reduceTDiv, Int.reduceTMod, Int.reduceMod, Int.reduceDiv, Nat.reduceMul, forall_const, implies_true, d_noriaref06_Right, eIls, ils_len, e1, e2, hcondQ]) | ((with_reducible refine And.intro ?_ ?_); · first | trivial | omega | (simp; done) | (simp; omega)) | ((first | ((with_reducible refine dwp_condI (t := ?_) ?_ (fun hcQ => ?_) (fun hcQ => ?_)); rotate_left; · rfl) | ((with_reducible refine dops_guardI (t := ?_) ?_ (fun hcQ => ?_) (fun hcQ => ?_)); rotate_left; · rfl)) <;> (have hn := hcQ; have hcondQ := hcQ) <;> (try simp only [decide_eq_true_eq, decide_eq_false_iff_not, beq_iff_eq, bne_iff_ne, ne_eq, Bool.and_eq_true, Bool.or_eq_true, Bool.not_eq_true, Bool.not_eq_false, beq_eq_false_iff_ne, bne_eq_false_iff_eq, Bool.not_eq_true', Bool.not_eq_false', Int.ofNat_lt, Int.ofNat_le, Bool.or_eq_false_iff, Bool.and_eq_false_imp, Decidable.not_not, gt_iff_lt, ge_iff_le] at hn) <;> (try (exfalso; omega)) <;> (refine Todo.of ?_)) | (((with_reducible refine dwp_condA ?_ ?_ ?_); · rfl) <;> (refine Todo.of ?_))))
    all_goals grind [rightV]
  obtain ⟨q1, q2⟩ := q
  have n1 : ((v.length : Int) != cellsTy t) = false := by simp [q2]
  have hr : rightV l t v = v.all (oneF l t) := by simp [rightV, q1, q2]
  (have hcondQ := Bool.and_self; refine Todo.of ?_; repeat' (first | ((with_reducible refine Todo.to ?_); try simp only [↓rP, rT, rU, eI, eU, eB, eS, eBs, eL, eA, buildCells, sepsD, sepB, hdl, dvalX, DOp.kind, dval, frameFrom, dBin, dInt, dStr, dBeq, dUn, dLoad, cellsAt, retV, retL, DR.val, fzT, fzVs, fzV, fz1, DV.immB, IntKind.bits, dCallP, viewVs, viewV, view1, capVL, capV, viewL, noMemV, noMem, elemsOf, dAppend, dAppz, dStore, DV.one, alive, freezeAt, fzLL, fzL, bRow, bU, cellsOf, setFrom, DV.isU, lenMax, lenCap, Nat.reduceEqDiff, Nat.reduceAdd, ↓reduceIte, reduceCtorEq, Nat.reduceSub, Int.reduceToNat, Int.reducePow, Nat.reducePow, Int.reduceLE, Int.reduceLT, Nat.reduceLeDiff, Nat.reduceLT, Int.reduceBEq, Int.reduceBNe, Int.reduceEq, Int.reduceNe, Int.reduceAdd, Int.reduceSub, Int.reduceMul, Int.reduceNeg, Int.reduceTDiv, Int.reduceTMod, Int.reduceMod, Int.reduceDiv, Nat.reduceMul, forall_const, implies_true, d_noriaref06_Right, eIls, ils_len, e1, e2, q1, n1, hcondQ]) | ((with_reducible refine And.intro ?_ ?_); · first | trivial | omega | (simp; done) | (simp; omega)) | ((first | ((with_reducible refine dwp_condI (t := ?_) ?_ (fun hcQ => ?_) (fun hcQ => ?_)); rotate_left; · rfl) | ((with_reducible refine dops_guardI (t := ?_) ?_ (fun hcQ => ?_) (fun hcQ => ?_)); rotate_left; · rfl)) <;> (have hn := hcQ; have hcondQ := hcQ) <;> (try simp only [decide_eq_true_eq, decide_eq_false_iff_not, beq_iff_eq, bne_iff_ne, ne_eq, Bool.and_eq_true, Bool.or_eq_true, Bool.not_eq_true, Bool.not_eq_false, beq_eq_false_iff_ne, bne_eq_false_iff_eq, Bool.not_eq_true', Bool.not_eq_false', Int.ofNat_lt, Int.ofNat_le, Bool.or_eq_false_iff, Bool.and_eq_false_imp, Decidable.not_not, gt_iff_lt, ge_iff_le] at hn) <;> (try (exfalso; omega)) <;> (refine Todo.of ?_)) | (((with_reducible refine dwp_condA ?_ ?_ ?_); · rfl) <;> (refine Todo.of ?_))))
  refine dwp_loop (fun k : Nat => ⟨[(0, .sl (l.map cEn)), (2, .sl (ils v)), (4, .ptr 0 1 0 0), (7, .int .i64 k)], [⟨.loc, 3, [cTy t]⟩]⟩) (fun k => k ≤ v.length ∧ ∀ x ∈ v.take k, (fun n => !oneF l t n) x = false) (fun k => v.length - k) 0 (by exact Nat.zero_le _) ?_ ⟨Nat.zero_le _, by simp⟩ fun k hk => ?_
  · simp only [cut_some, cut_none, List.map_cons, List.map_nil, get_cons, Nk.get_nil, Nat.reduceEqDiff, ↓reduceIte, Nat.succ_ne_self, DV.cut, DV.inB, DObj.cut, List.take_nil, List.take_zero, if_true, Nat.zero_ne_one, Nat.one_ne_zero, DV.inBL, Bool.and_true, Bool.true_and, reduceCtorEq, Nat.zero_lt_one, decide_true, decide_false, Nat.reduceLT, List.take_succ_cons]
    rfl
  obtain ⟨hk, ht⟩ := hk
  have hl : v.length ≤ 1000000000 := h
  by_cases d : k < v.length
  · have w : IntKind.i64.wrap ((k : Int) + 1) = ((k + 1 : Nat) : Int) := by rw [wrap_i64_id (by omega)]; omega
    have e3 := ils_getD d
    have e4 := s_One_at l t (v.getD k 0)
    simp only [cTy] at e4
    (have hcondQ := Bool.and_self; refine Todo.of ?_; repeat' (first | ((with_reducible refine Todo.to ?_); try simp only [↓rP, rT, rU, eI, eU, eB, eS, eBs, eL, eA, buildCells, sepsD, sepB, hdl, dvalX, DOp.kind, dval, frameFrom, dBin, dInt, dStr, dBeq, dUn, dLoad, cellsAt, retV, retL, DR.val, fzT, fzVs, fzV, fz1, DV.immB, IntKind.bits, dCallP, viewVs, viewV, view1, capVL, capV, viewL, noMemV, noMem, elemsOf, dAppend, dAppz, dStore, DV.one, alive, freezeAt, fzLL, fzL, bRow, bU, cellsOf, setFrom, DV.isU, lenMax, lenCap, Nat.reduceEqDiff, Nat.reduceAdd, ↓reduceIte, reduceCtorEq, Nat.reduceSub, Int.reduceToNat, Int.reducePow, Nat.reducePow, Int.reduceLE, Int.reduceLT, Nat.reduceLeDiff, Nat.reduceLT, Int.reduceBEq, Int.reduceBNe, Int.reduceEq, Int.reduceNe, Int.reduceAdd, Int.reduceSub, Int.reduceMul, Int.reduceNeg, Int.reduceTDiv, Int.reduceTMod, Int.reduceMod, Int.reduceDiv, Nat.reduceMul, forall_const, implies_true, d_noriaref06_Right, ils_len, e3, e4, d, w, hcondQ]) | ((with_reducible refine And.intro ?_ ?_); · first | trivial | omega | (simp; done) | (simp; omega)) | ((first | ((with_reducible refine dwp_condI (t := ?_) ?_ (fun hcQ => ?_) (fun hcQ => ?_)); rotate_left; · rfl) | ((with_reducible refine dops_guardI (t := ?_) ?_ (fun hcQ => ?_) (fun hcQ => ?_)); rotate_left; · rfl)) <;> (have hn := hcQ; have hcondQ := hcQ) <;> (try simp only [decide_eq_true_eq, decide_eq_false_iff_not, beq_iff_eq, bne_iff_ne, ne_eq, Bool.and_eq_true, Bool.or_eq_true, Bool.not_eq_true, Bool.not_eq_false, beq_eq_false_iff_ne, bne_eq_false_iff_eq, Bool.not_eq_true', Bool.not_eq_false', Int.ofNat_lt, Int.ofNat_le, Bool.or_eq_false_iff, Bool.and_eq_false_imp, Decidable.not_not, gt_iff_lt, ge_iff_le] at hn) <;> (try (exfalso; omega)) <;> (refine Todo.of ?_)) | (((with_reducible refine dwp_condA ?_ ?_ ?_); · rfl) <;> (refine Todo.of ?_))))
    · have : v.all (oneF l t) = false := by
        rw [List.all_eq_false]
        exact ⟨v[k], List.getElem_mem d, by simp_all⟩
      simp [hr, this]
    · refine ⟨k + 1, ?_, ⟨by omega, take_noI d ht (by simp_all)⟩, by omega⟩
      simp only [cut_some, cut_none, List.map_cons, List.map_nil, get_cons, Nk.get_nil, Nat.reduceEqDiff, ↓reduceIte, Nat.succ_ne_self, DV.cut, DV.inB, DObj.cut, List.take_nil, List.take_zero, if_true, Nat.zero_ne_one, Nat.one_ne_zero, DV.inBL, Bool.and_true, Bool.true_and, reduceCtorEq, Nat.zero_lt_one, decide_true, decide_false, Nat.reduceLT, List.take_succ_cons]
  · have hk2 : k = v.length := by omega
    have hc : v.all (oneF l t) = true := by
      rw [hk2, List.take_length] at ht
      rw [List.all_eq_true]
      intro x hx
      simpa using ht x hx
    rw [hc] at hr
    (have hcondQ := Bool.and_self; refine Todo.of ?_; repeat' (first | ((with_reducible refine Todo.to ?_); try simp only [↓rP, rT, rU, eI, eU, eB, eS, eBs, eL, eA, buildCells, sepsD, sepB, hdl, dvalX, DOp.kind, dval, frameFrom, dBin, dInt, dStr, dBeq, dUn, dLoad, cellsAt, retV, retL, DR.val, fzT, fzVs, fzV, fz1, DV.immB, IntKind.bits, dCallP, viewVs, viewV, view1, capVL, capV, viewL, noMemV, noMem, elemsOf, dAppend, dAppz, dStore, DV.one, alive, freezeAt, fzLL, fzL, bRow, bU, cellsOf, setFrom, DV.isU, lenMax, lenCap, Nat.reduceEqDiff, Nat.reduceAdd, ↓reduceIte, reduceCtorEq, Nat.reduceSub, Int.reduceToNat, Int.reducePow, Nat.reducePow, Int.reduceLE, Int.reduceLT, Nat.reduceLeDiff, Nat.reduceLT, Int.reduceBEq, Int.reduceBNe, Int.reduceEq, Int.reduceNe, Int.reduceAdd, Int.reduceSub, Int.reduceMul, Int.reduceNeg, Int.reduceTDiv, Int.reduceTMod, Int.reduceMod, Int.reduceDiv, Nat.reduceMul, forall_const, implies_true, d_noriaref06_Right, ils_len, d, hr, hcondQ]) | ((with_reducible refine And.intro ?_ ?_); · first | trivial | omega | (simp; done) | (simp; omega)) | ((first | ((with_reducible refine dwp_condI (t := ?_) ?_ (fun hcQ => ?_) (fun hcQ => ?_)); rotate_left; · rfl) | ((with_reducible refine dops_guardI (t := ?_) ?_ (fun hcQ => ?_) (fun hcQ => ?_)); rotate_left; · rfl)) <;> (have hn := hcQ; have hcondQ := hcQ) <;> (try simp only [decide_eq_true_eq, decide_eq_false_iff_not, beq_iff_eq, bne_iff_ne, ne_eq, Bool.and_eq_true, Bool.or_eq_true, Bool.not_eq_true, Bool.not_eq_false, beq_eq_false_iff_ne, bne_eq_false_iff_eq, Bool.not_eq_true', Bool.not_eq_false', Int.ofNat_lt, Int.ofNat_le, Bool.or_eq_false_iff, Bool.and_eq_false_imp, Decidable.not_not, gt_iff_lt, ge_iff_le] at hn) <;> (try (exfalso; omega)) <;> (refine Todo.of ?_)) | (((with_reducible refine dwp_condA ?_ ?_ ?_); · rfl) <;> (refine Todo.of ?_))))

/-- How many numbers. -/
def sumC (l : List Slt) : Int := l.foldl (fun n s => n + cellsTy s.ty) 0
theorem cellsTy_b (t : Ty) : 1 ≤ cellsTy t ∧ cellsTy t ≤ 8 := by
  unfold cellsTy
  by_cases h1 : t.n < 1
  · rw [if_pos h1]; omega
  · rw [if_neg h1]
    by_cases h2 : 8 < t.n
    · rw [if_pos h2]; omega
    · rw [if_neg h2]; omega
theorem sumC_take {l : List Slt} {k : Nat} (h : k < l.length) : sumC (l.take (k + 1)) = sumC (l.take k) + cellsTy (l.getD k default).ty := by
  have e : l.getD k default = l[k] := by simp [h]
  have e2 : l[k]? = some l[k] := List.getElem?_eq_getElem h
  rw [List.take_add_one, e, e2]
  simp only [sumC, List.foldl_append, Option.toList_some, List.foldl_cons, List.foldl_nil]
theorem sumC_b : ∀ (l : List Slt) (k : Nat), k ≤ l.length → 0 ≤ sumC (l.take k) ∧ sumC (l.take k) ≤ 8 * k
  | l, 0, _ => by simp [sumC]
  | l, k + 1, h => by
    have ih := sumC_b l k (by omega)
    rw [sumC_take (by omega)]
    have := cellsTy_b (l.getD k default).ty
    omega
abbrev eSlts : List Slt → DV := eL cSlt
theorem inj_Slts : Inj eSlts := inj_L cSlt_inj
theorem slt_getD {l : List Slt} {j : Nat} (h : j < l.length) : (l.map cSlt).getD j [] = cSlt (l.getD j default) := by simp [h]
noncomputable def s_SumC : List DV → Prop × DV := spec1 eSlts fun l => (l.length ≤ 1000000000, .int .i64 (sumC l))
theorem s_SumC_at (l : List Slt) : s_SumC [.sl (l.map cSlt)] = (l.length ≤ 1000000000, .int .i64 (sumC l)) := spec1_at inj_Slts _ _
end Go.Proofs.YtaoabkpfidbogaaDoor

/- A type's kind; what is kept at first. -/
set_option linter.all false
set_option maxRecDepth 20000
namespace Go.Proofs.YtaoabkpfidbogaaDoor
open Go.Nk

def kindOf (t : Ty) : Int := if t.k = 1 ∨ t.k = 2 then t.k else if t.k = 3 ∧ 0 ≤ t.e ∧ t.e ≤ 1000 then 3 + t.e else 0
noncomputable def s_Kind6 : List DV → Prop × DV := spec1 eTy fun t => (True, .int .i64 (kindOf t))
theorem s_Kind6_at (t : Ty) : s_Kind6 [.agg (cTy t)] = (True, .int .i64 (kindOf t)) := spec1_at inj_Ty _ _
theorem ok_Kind6 : OkP Tryd.prog 19 s_Kind6 := by
  refine OkP.mk1 (ps := []) (hs := []) trivial trivial m_val_Kind fun t _ => ?_
  by_cases q : 0 ≤ t.e ∧ t.e ≤ 1000
  · have w : IntKind.i64.wrap (3 + t.e) = 3 + t.e := wrap_i64_id (by omega)
    (have hcondQ := Bool.and_self; refine Todo.of ?_; repeat' (first | ((with_reducible refine Todo.to ?_); try simp only [↓rP, rT, rU, eI, eU, eB, eS, eBs, eL, eA, buildCells, sepsD, sepB, hdl, dvalX, DOp.kind, dval, frameFrom, dBin, dInt, dStr, dBeq, dUn, dLoad, cellsAt, retV, retL, DR.val, fzT, fzVs, fzV, fz1, DV.immB, IntKind.bits, dCallP, viewVs, viewV, view1, capVL, capV, viewL, noMemV, noMem, elemsOf, dAppend, dAppz, dStore, DV.one, alive, freezeAt, fzLL, fzL, bRow, bU, cellsOf, setFrom, DV.isU, lenMax, lenCap, Nat.reduceEqDiff, Nat.reduceAdd, ↓reduceIte, reduceCtorEq, Nat.reduceSub, Int.reduceToNat, Int.reducePow, Nat.reducePow, Int.reduceLE, Int.reduceLT, Nat.reduceLeDiff, Nat.reduceLT, Int.reduceBEq, Int.reduceBNe, Int.reduceEq, Int.reduceNe, Int.reduceAdd, Int.reduceSub, Int.reduceMul, Int.reduceNeg, Int.reduceTDiv, Int.reduceTMod, Int.reduceMod, Int.reduceDiv, Nat.reduceMul, forall_const, implies_true, d_val_Kind, w, hcondQ]) | ((with_reducible refine And.intro ?_ ?_); · first | trivial | omega | (simp; done) | (simp; omega)) | ((first | ((with_reducible refine dwp_condI (t := ?_) ?_ (fun hcQ => ?_) (fun hcQ => ?_)); rotate_left; · rfl) | ((with_reducible refine dops_guardI (t := ?_) ?_ (fun hcQ => ?_) (fun hcQ => ?_)); rotate_left; · rfl)) <;> (have hn := hcQ; have hcondQ := hcQ) <;> (try simp only [decide_eq_true_eq, decide_eq_false_iff_not, beq_iff_eq, bne_iff_ne, ne_eq, Bool.and_eq_true, Bool.or_eq_true, Bool.not_eq_true, Bool.not_eq_false, beq_eq_false_iff_ne, bne_eq_false_iff_eq, Bool.not_eq_true', Bool.not_eq_false', Int.ofNat_lt, Int.ofNat_le, Bool.or_eq_false_iff, Bool.and_eq_false_imp, Decidable.not_not, gt_iff_lt, ge_iff_le] at hn) <;> (try (exfalso; omega)) <;> (refine Todo.of ?_)) | (((with_reducible refine dwp_condA ?_ ?_ ?_); · rfl) <;> (refine Todo.of ?_))))
    all_goals grind [kindOf]
  · (have hcondQ := Bool.and_self; refine Todo.of ?_; repeat' (first | ((with_reducible refine Todo.to ?_); try simp only [↓rP, rT, rU, eI, eU, eB, eS, eBs, eL, eA, buildCells, sepsD, sepB, hdl, dvalX, DOp.kind, dval, frameFrom, dBin, dInt, dStr, dBeq, dUn, dLoad, cellsAt, retV, retL, DR.val, fzT, fzVs, fzV, fz1, DV.immB, IntKind.bits, dCallP, viewVs, viewV, view1, capVL, capV, viewL, noMemV, noMem, elemsOf, dAppend, dAppz, dStore, DV.one, alive, freezeAt, fzLL, fzL, bRow, bU, cellsOf, setFrom, DV.isU, lenMax, lenCap, Nat.reduceEqDiff, Nat.reduceAdd, ↓reduceIte, reduceCtorEq, Nat.reduceSub, Int.reduceToNat, Int.reducePow, Nat.reducePow, Int.reduceLE, Int.reduceLT, Nat.reduceLeDiff, Nat.reduceLT, Int.reduceBEq, Int.reduceBNe, Int.reduceEq, Int.reduceNe, Int.reduceAdd, Int.reduceSub, Int.reduceMul, Int.reduceNeg, Int.reduceTDiv, Int.reduceTMod, Int.reduceMod, Int.reduceDiv, Nat.reduceMul, forall_const, implies_true, d_val_Kind, hcondQ]) | ((with_reducible refine And.intro ?_ ?_); · first | trivial | omega | (simp; done) | (simp; omega)) | ((first | ((with_reducible refine dwp_condI (t := ?_) ?_ (fun hcQ => ?_) (fun hcQ => ?_)); rotate_left; · rfl) | ((with_reducible refine dops_guardI (t := ?_) ?_ (fun hcQ => ?_) (fun hcQ => ?_)); rotate_left; · rfl)) <;> (have hn := hcQ; have hcondQ := hcQ) <;> (try simp only [decide_eq_true_eq, decide_eq_false_iff_not, beq_iff_eq, bne_iff_ne, ne_eq, Bool.and_eq_true, Bool.or_eq_true, Bool.not_eq_true, Bool.not_eq_false, beq_eq_false_iff_ne, bne_eq_false_iff_eq, Bool.not_eq_true', Bool.not_eq_false', Int.ofNat_lt, Int.ofNat_le, Bool.or_eq_false_iff, Bool.and_eq_false_imp, Decidable.not_not, gt_iff_lt, ge_iff_le] at hn) <;> (try (exfalso; omega)) <;> (refine Todo.of ?_)) | (((with_reducible refine dwp_condA ?_ ?_ ?_); · rfl) <;> (refine Todo.of ?_))))
    all_goals grind [kindOf]
theorem ok_refKind6 : OkP Tryd.prog 20 s_Kind6 := by
  refine OkP.mk1 (ps := []) (hs := []) trivial trivial m_noriaref06_Kind fun t _ => ?_
  by_cases q : 0 ≤ t.e ∧ t.e ≤ 1000
  · have w : IntKind.i64.wrap (3 + t.e) = 3 + t.e := wrap_i64_id (by omega)
    (have hcondQ := Bool.and_self; refine Todo.of ?_; repeat' (first | ((with_reducible refine Todo.to ?_); try simp only [↓rP, rT, rU, eI, eU, eB, eS, eBs, eL, eA, buildCells, sepsD, sepB, hdl, dvalX, DOp.kind, dval, frameFrom, dBin, dInt, dStr, dBeq, dUn, dLoad, cellsAt, retV, retL, DR.val, fzT, fzVs, fzV, fz1, DV.immB, IntKind.bits, dCallP, viewVs, viewV, view1, capVL, capV, viewL, noMemV, noMem, elemsOf, dAppend, dAppz, dStore, DV.one, alive, freezeAt, fzLL, fzL, bRow, bU, cellsOf, setFrom, DV.isU, lenMax, lenCap, Nat.reduceEqDiff, Nat.reduceAdd, ↓reduceIte, reduceCtorEq, Nat.reduceSub, Int.reduceToNat, Int.reducePow, Nat.reducePow, Int.reduceLE, Int.reduceLT, Nat.reduceLeDiff, Nat.reduceLT, Int.reduceBEq, Int.reduceBNe, Int.reduceEq, Int.reduceNe, Int.reduceAdd, Int.reduceSub, Int.reduceMul, Int.reduceNeg, Int.reduceTDiv, Int.reduceTMod, Int.reduceMod, Int.reduceDiv, Nat.reduceMul, forall_const, implies_true, d_noriaref06_Kind, w, hcondQ]) | ((with_reducible refine And.intro ?_ ?_); · first | trivial | omega | (simp; done) | (simp; omega)) | ((first | ((with_reducible refine dwp_condI (t := ?_) ?_ (fun hcQ => ?_) (fun hcQ => ?_)); rotate_left; · rfl) | ((with_reducible refine dops_guardI (t := ?_) ?_ (fun hcQ => ?_) (fun hcQ => ?_)); rotate_left; · rfl)) <;> (have hn := hcQ; have hcondQ := hcQ) <;> (try simp only [decide_eq_true_eq, decide_eq_false_iff_not, beq_iff_eq, bne_iff_ne, ne_eq, Bool.and_eq_true, Bool.or_eq_true, Bool.not_eq_true, Bool.not_eq_false, beq_eq_false_iff_ne, bne_eq_false_iff_eq, Bool.not_eq_true', Bool.not_eq_false', Int.ofNat_lt, Int.ofNat_le, Bool.or_eq_false_iff, Bool.and_eq_false_imp, Decidable.not_not, gt_iff_lt, ge_iff_le] at hn) <;> (try (exfalso; omega)) <;> (refine Todo.of ?_)) | (((with_reducible refine dwp_condA ?_ ?_ ?_); · rfl) <;> (refine Todo.of ?_))))
    all_goals grind [kindOf]
  · (have hcondQ := Bool.and_self; refine Todo.of ?_; repeat' (first | ((with_reducible refine Todo.to ?_); try simp only [↓rP, rT, rU, eI, eU, eB, eS, eBs, eL, eA, buildCells, sepsD, sepB, hdl, dvalX, DOp.kind, dval, frameFrom, dBin, dInt, dStr, dBeq, dUn, dLoad, cellsAt, retV, retL, DR.val, fzT, fzVs, fzV, fz1, DV.immB, IntKind.bits, dCallP, viewVs, viewV, view1, capVL, capV, viewL, noMemV, noMem, elemsOf, dAppend, dAppz, dStore, DV.one, alive, freezeAt, fzLL, fzL, bRow, bU, cellsOf, setFrom, DV.isU, lenMax, lenCap, Nat.reduceEqDiff, Nat.reduceAdd, ↓reduceIte, reduceCtorEq, Nat.reduceSub, Int.reduceToNat, Int.reducePow, Nat.reducePow, Int.reduceLE, Int.reduceLT, Nat.reduceLeDiff, Nat.reduceLT, Int.reduceBEq, Int.reduceBNe, Int.reduceEq, Int.reduceNe, Int.reduceAdd, Int.reduceSub, Int.reduceMul, Int.reduceNeg, Int.reduceTDiv, Int.reduceTMod, Int.reduceMod, Int.reduceDiv, Nat.reduceMul, forall_const, implies_true, d_noriaref06_Kind, hcondQ]) | ((with_reducible refine And.intro ?_ ?_); · first | trivial | omega | (simp; done) | (simp; omega)) | ((first | ((with_reducible refine dwp_condI (t := ?_) ?_ (fun hcQ => ?_) (fun hcQ => ?_)); rotate_left; · rfl) | ((with_reducible refine dops_guardI (t := ?_) ?_ (fun hcQ => ?_) (fun hcQ => ?_)); rotate_left; · rfl)) <;> (have hn := hcQ; have hcondQ := hcQ) <;> (try simp only [decide_eq_true_eq, decide_eq_false_iff_not, beq_iff_eq, bne_iff_ne, ne_eq, Bool.and_eq_true, Bool.or_eq_true, Bool.not_eq_true, Bool.not_eq_false, beq_eq_false_iff_ne, bne_eq_false_iff_eq, Bool.not_eq_true', Bool.not_eq_false', Int.ofNat_lt, Int.ofNat_le, Bool.or_eq_false_iff, Bool.and_eq_false_imp, Decidable.not_not, gt_iff_lt, ge_iff_le] at hn) <;> (try (exfalso; omega)) <;> (refine Todo.of ?_)) | (((with_reducible refine dwp_condA ?_ ?_ ?_); · rfl) <;> (refine Todo.of ?_))))
    all_goals grind [kindOf]

def startF (l : List Slt) : List Int := (l.map (·.ini)).flatten
theorem startF_take {l : List Slt} {k : Nat} (h : k < l.length) : startF (l.take (k + 1)) = startF (l.take k) ++ (l.getD k default).ini := by
  have e : l.getD k default = l[k] := by simp [h]
  have e2 : l[k]? = some l[k] := List.getElem?_eq_getElem h
  rw [List.take_add_one, e, e2]
  simp only [startF, Option.toList_some, List.map_append, List.flatten_append, List.map_cons, List.map_nil, List.flatten_cons, List.flatten_nil, List.append_nil]
theorem startF_len (l : List Slt) (k : Nat) : (startF (l.take k)).length ≤ (startF l).length := by
  have : startF l = startF (l.take k) ++ startF (l.drop k) := by
    unfold startF
    rw [← List.flatten_append, ← List.map_append, List.take_append_drop]
  rw [this, List.length_append]
  omega
noncomputable def s_Start : List DV → Prop × DV := spec1 eImg fun x => (x.slots.length ≤ 1000000000 ∧ (startF x.slots).length ≤ 1000000000, .sl (ils (startF x.slots)))
theorem s_Start_at (x : Img) : s_Start [.agg (cImg x)] = (x.slots.length ≤ 1000000000 ∧ (startF x.slots).length ≤ 1000000000, .sl (ils (startF x.slots))) := spec1_at inj_Img _ _
end Go.Proofs.YtaoabkpfidbogaaDoor

/- Which enums are small. -/
set_option linter.all false
set_option maxRecDepth 20000
namespace Go.Proofs.YtaoabkpfidbogaaDoor
open Go.Nk

def smallC (l : List (List UInt8)) : Bool := l.all fun s => decide (s.length ≤ 100)
def smallE (x : En) : Bool := decide (x.ct.length ≤ 12) && decide (x.name.length ≤ 100) && smallC x.ct
def smallF (l : List En) : Bool := decide (l.length ≤ 8) && l.all smallE
noncomputable def s_Small : List DV → Prop × DV := spec1 eEns fun l => (True, .bool (smallF l))
theorem s_Small_at (l : List En) : s_Small [.sl (l.map cEn)] = (True, .bool (smallF l)) := spec1_at inj_Ens _ _
theorem ok_Small : OkP Tryd.prog 6 s_Small := by
  refine OkP.mk1 (ps := []) (hs := []) trivial trivial m_noriaref05_Small fun l _ => ?_
  by_cases q : l.length ≤ 8
  rotate_left
  · have n1 : (8 : Int) < (l.length : Int) := by omega
    have hr : smallF l = false := by simp [smallF]; intro h; omega
    (have hcondQ := Bool.and_self; refine Todo.of ?_; repeat' (first | ((with_reducible refine Todo.to ?_); try simp only [↓rP, rT, rU, eI, eU, eB, eS, eBs, eL, eA, buildCells, sepsD, sepB, hdl, dvalX, DOp.kind, dval, frameFrom, dBin, dInt, dStr, dBeq, dUn, dLoad, cellsAt, retV, retL, DR.val, fzT, fzVs, fzV, fz1, DV.immB, IntKind.bits, dCallP, viewVs, viewV, view1, capVL, capV, viewL, noMemV, noMem, elemsOf, dAppend, dAppz, dStore, DV.one, alive, freezeAt, fzLL, fzL, bRow, bU, cellsOf, setFrom, DV.isU, lenMax, lenCap, Nat.reduceEqDiff, Nat.reduceAdd, ↓reduceIte, reduceCtorEq, Nat.reduceSub, Int.reduceToNat, Int.reducePow, Nat.reducePow, Int.reduceLE, Int.reduceLT, Nat.reduceLeDiff, Nat.reduceLT, Int.reduceBEq, Int.reduceBNe, Int.reduceEq, Int.reduceNe, Int.reduceAdd, Int.reduceSub, Int.reduceMul, Int.reduceNeg, Int.reduceTDiv, Int.reduceTMod, Int.reduceMod, Int.reduceDiv, Nat.reduceMul, forall_const, implies_true, d_noriaref05_Small, List.length_map, n1, hr, hcondQ]) | ((with_reducible refine And.intro ?_ ?_); · first | trivial | omega | (simp; done) | (simp; omega)) | ((first | ((with_reducible refine dwp_condI (t := ?_) ?_ (fun hcQ => ?_) (fun hcQ => ?_)); rotate_left; · rfl) | ((with_reducible refine dops_guardI (t := ?_) ?_ (fun hcQ => ?_) (fun hcQ => ?_)); rotate_left; · rfl)) <;> (have hn := hcQ; have hcondQ := hcQ) <;> (try simp only [decide_eq_true_eq, decide_eq_false_iff_not, beq_iff_eq, bne_iff_ne, ne_eq, Bool.and_eq_true, Bool.or_eq_true, Bool.not_eq_true, Bool.not_eq_false, beq_eq_false_iff_ne, bne_eq_false_iff_eq, Bool.not_eq_true', Bool.not_eq_false', Int.ofNat_lt, Int.ofNat_le, Bool.or_eq_false_iff, Bool.and_eq_false_imp, Decidable.not_not, gt_iff_lt, ge_iff_le] at hn) <;> (try (exfalso; omega)) <;> (refine Todo.of ?_)) | (((with_reducible refine dwp_condA ?_ ?_ ?_); · rfl) <;> (refine Todo.of ?_))))
  have n1 : ¬ (8 : Int) < (l.length : Int) := by omega
  have hr : smallF l = l.all smallE := by simp [smallF, q]
  (have hcondQ := Bool.and_self; refine Todo.of ?_; repeat' (first | ((with_reducible refine Todo.to ?_); try simp only [↓rP, rT, rU, eI, eU, eB, eS, eBs, eL, eA, buildCells, sepsD, sepB, hdl, dvalX, DOp.kind, dval, frameFrom, dBin, dInt, dStr, dBeq, dUn, dLoad, cellsAt, retV, retL, DR.val, fzT, fzVs, fzV, fz1, DV.immB, IntKind.bits, dCallP, viewVs, viewV, view1, capVL, capV, viewL, noMemV, noMem, elemsOf, dAppend, dAppz, dStore, DV.one, alive, freezeAt, fzLL, fzL, bRow, bU, cellsOf, setFrom, DV.isU, lenMax, lenCap, Nat.reduceEqDiff, Nat.reduceAdd, ↓reduceIte, reduceCtorEq, Nat.reduceSub, Int.reduceToNat, Int.reducePow, Nat.reducePow, Int.reduceLE, Int.reduceLT, Nat.reduceLeDiff, Nat.reduceLT, Int.reduceBEq, Int.reduceBNe, Int.reduceEq, Int.reduceNe, Int.reduceAdd, Int.reduceSub, Int.reduceMul, Int.reduceNeg, Int.reduceTDiv, Int.reduceTMod, Int.reduceMod, Int.reduceDiv, Nat.reduceMul, forall_const, implies_true, d_noriaref05_Small, List.length_map, n1, hcondQ]) | ((with_reducible refine And.intro ?_ ?_); · first | trivial | omega | (simp; done) | (simp; omega)) | ((first | ((with_reducible refine dwp_condI (t := ?_) ?_ (fun hcQ => ?_) (fun hcQ => ?_)); rotate_left; · rfl) | ((with_reducible refine dops_guardI (t := ?_) ?_ (fun hcQ => ?_) (fun hcQ => ?_)); rotate_left; · rfl)) <;> (have hn := hcQ; have hcondQ := hcQ) <;> (try simp only [decide_eq_true_eq, decide_eq_false_iff_not, beq_iff_eq, bne_iff_ne, ne_eq, Bool.and_eq_true, Bool.or_eq_true, Bool.not_eq_true, Bool.not_eq_false, beq_eq_false_iff_ne, bne_eq_false_iff_eq, Bool.not_eq_true', Bool.not_eq_false', Int.ofNat_lt, Int.ofNat_le, Bool.or_eq_false_iff, Bool.and_eq_false_imp, Decidable.not_not, gt_iff_lt, ge_iff_le] at hn) <;> (try (exfalso; omega)) <;> (refine Todo.of ?_)) | (((with_reducible refine dwp_condA ?_ ?_ ?_); · rfl) <;> (refine Todo.of ?_))))
  refine dwp_loop (fun k : Nat => ⟨[(0, .sl (l.map cEn)), (3, .int .i64 k)], []⟩) (fun k => k ≤ l.length ∧ ∀ x ∈ l.take k, smallE x = true) (fun k => l.length - k) 0 (by exact Nat.zero_le _) ?_ ⟨Nat.zero_le _, by simp⟩ fun k hk => ?_
  · simp only [cut_some, cut_none, List.map_cons, List.map_nil, get_cons, Nk.get_nil, Nat.reduceEqDiff, ↓reduceIte, Nat.succ_ne_self, DV.cut, DV.inB, DObj.cut, List.take_nil, List.take_zero, if_true, Nat.zero_ne_one, Nat.one_ne_zero, DV.inBL, Bool.and_true, Bool.true_and, reduceCtorEq, Nat.zero_lt_one, decide_true, decide_false, Nat.reduceLT, List.take_succ_cons]
    rfl
  obtain ⟨hk, ht⟩ := hk
  by_cases d : k < l.length
  rotate_left
  · have e := all_take d ht
    rw [e] at hr
    (have hcondQ := Bool.and_self; refine Todo.of ?_; repeat' (first | ((with_reducible refine Todo.to ?_); try simp only [↓rP, rT, rU, eI, eU, eB, eS, eBs, eL, eA, buildCells, sepsD, sepB, hdl, dvalX, DOp.kind, dval, frameFrom, dBin, dInt, dStr, dBeq, dUn, dLoad, cellsAt, retV, retL, DR.val, fzT, fzVs, fzV, fz1, DV.immB, IntKind.bits, dCallP, viewVs, viewV, view1, capVL, capV, viewL, noMemV, noMem, elemsOf, dAppend, dAppz, dStore, DV.one, alive, freezeAt, fzLL, fzL, bRow, bU, cellsOf, setFrom, DV.isU, lenMax, lenCap, Nat.reduceEqDiff, Nat.reduceAdd, ↓reduceIte, reduceCtorEq, Nat.reduceSub, Int.reduceToNat, Int.reducePow, Nat.reducePow, Int.reduceLE, Int.reduceLT, Nat.reduceLeDiff, Nat.reduceLT, Int.reduceBEq, Int.reduceBNe, Int.reduceEq, Int.reduceNe, Int.reduceAdd, Int.reduceSub, Int.reduceMul, Int.reduceNeg, Int.reduceTDiv, Int.reduceTMod, Int.reduceMod, Int.reduceDiv, Nat.reduceMul, forall_const, implies_true, d_noriaref05_Small, List.length_map, d, hr, hcondQ]) | ((with_reducible refine And.intro ?_ ?_); · first | trivial | omega | (simp; done) | (simp; omega)) | ((first | ((with_reducible refine dwp_condI (t := ?_) ?_ (fun hcQ => ?_) (fun hcQ => ?_)); rotate_left; · rfl) | ((with_reducible refine dops_guardI (t := ?_) ?_ (fun hcQ => ?_) (fun hcQ => ?_)); rotate_left; · rfl)) <;> (have hn := hcQ; have hcondQ := hcQ) <;> (try simp only [decide_eq_true_eq, decide_eq_false_iff_not, beq_iff_eq, bne_iff_ne, ne_eq, Bool.and_eq_true, Bool.or_eq_true, Bool.not_eq_true, Bool.not_eq_false, beq_eq_false_iff_ne, bne_eq_false_iff_eq, Bool.not_eq_true', Bool.not_eq_false', Int.ofNat_lt, Int.ofNat_le, Bool.or_eq_false_iff, Bool.and_eq_false_imp, Decidable.not_not, gt_iff_lt, ge_iff_le] at hn) <;> (try (exfalso; omega)) <;> (refine Todo.of ?_)) | (((with_reducible refine dwp_condA ?_ ?_ ?_); · rfl) <;> (refine Todo.of ?_))))
  have w : IntKind.i64.wrap ((k : Int) + 1) = ((k + 1 : Nat) : Int) := by rw [wrap_i64_id (by omega)]; omega
  have e1 := en_getD d
  have n2 := @all_not _ smallE l default k d
  have n3 := @take_yes _ smallE l default k d ht
  generalize l.getD k default = x at *
  simp only [cEn] at e1
  by_cases c : x.ct.length ≤ 12 ∧ x.name.length ≤ 100
  rotate_left
  · have := n2 (by simp only [smallE]; grind)
    rw [this] at hr
    (have hcondQ := Bool.and_self; refine Todo.of ?_; repeat' (first | ((with_reducible refine Todo.to ?_); try simp only [↓rP, rT, rU, eI, eU, eB, eS, eBs, eL, eA, buildCells, sepsD, sepB, hdl, dvalX, DOp.kind, dval, frameFrom, dBin, dInt, dStr, dBeq, dUn, dLoad, cellsAt, retV, retL, DR.val, fzT, fzVs, fzV, fz1, DV.immB, IntKind.bits, dCallP, viewVs, viewV, view1, capVL, capV, viewL, noMemV, noMem, elemsOf, dAppend, dAppz, dStore, DV.one, alive, freezeAt, fzLL, fzL, bRow, bU, cellsOf, setFrom, DV.isU, lenMax, lenCap, Nat.reduceEqDiff, Nat.reduceAdd, ↓reduceIte, reduceCtorEq, Nat.reduceSub, Int.reduceToNat, Int.reducePow, Nat.reducePow, Int.reduceLE, Int.reduceLT, Nat.reduceLeDiff, Nat.reduceLT, Int.reduceBEq, Int.reduceBNe, Int.reduceEq, Int.reduceNe, Int.reduceAdd, Int.reduceSub, Int.reduceMul, Int.reduceNeg, Int.reduceTDiv, Int.reduceTMod, Int.reduceMod, Int.reduceDiv, Nat.reduceMul, forall_const, implies_true, d_noriaref05_Small, List.length_map, sls_len, e1, d, hr, hcondQ]) | ((with_reducible refine And.intro ?_ ?_); · first | trivial | omega | (simp; done) | (simp; omega)) | ((first | ((with_reducible refine dwp_condI (t := ?_) ?_ (fun hcQ => ?_) (fun hcQ => ?_)); rotate_left; · rfl) | ((with_reducible refine dops_guardI (t := ?_) ?_ (fun hcQ => ?_) (fun hcQ => ?_)); rotate_left; · rfl)) <;> (have hn := hcQ; have hcondQ := hcQ) <;> (try simp only [decide_eq_true_eq, decide_eq_false_iff_not, beq_iff_eq, bne_iff_ne, ne_eq, Bool.and_eq_true, Bool.or_eq_true, Bool.not_eq_true, Bool.not_eq_false, beq_eq_false_iff_ne, bne_eq_false_iff_eq, Bool.not_eq_true', Bool.not_eq_false', Int.ofNat_lt, Int.ofNat_le, Bool.or_eq_false_iff, Bool.and_eq_false_imp, Decidable.not_not, gt_iff_lt, ge_iff_le] at hn) <;> (try (exfalso; omega)) <;> (refine Todo.of ?_)) | (((with_reducible refine dwp_condA ?_ ?_ ?_); · rfl) <;> (refine Todo.of ?_))))
    all_goals (exfalso; omega)
  obtain ⟨c1, c2⟩ := c
  have m1 : ¬ (12 : Int) < (x.ct.length : Int) := by omega
  have m2 : ¬ (100 : Int) < (x.name.length : Int) := by omega
  have hx : smallE x = smallC x.ct := by simp [smallE, c1, c2]
  (have hcondQ := Bool.and_self; refine Todo.of ?_; repeat' (first | ((with_reducible refine Todo.to ?_); try simp only [↓rP, rT, rU, eI, eU, eB, eS, eBs, eL, eA, buildCells, sepsD, sepB, hdl, dvalX, DOp.kind, dval, frameFrom, dBin, dInt, dStr, dBeq, dUn, dLoad, cellsAt, retV, retL, DR.val, fzT, fzVs, fzV, fz1, DV.immB, IntKind.bits, dCallP, viewVs, viewV, view1, capVL, capV, viewL, noMemV, noMem, elemsOf, dAppend, dAppz, dStore, DV.one, alive, freezeAt, fzLL, fzL, bRow, bU, cellsOf, setFrom, DV.isU, lenMax, lenCap, Nat.reduceEqDiff, Nat.reduceAdd, ↓reduceIte, reduceCtorEq, Nat.reduceSub, Int.reduceToNat, Int.reducePow, Nat.reducePow, Int.reduceLE, Int.reduceLT, Nat.reduceLeDiff, Nat.reduceLT, Int.reduceBEq, Int.reduceBNe, Int.reduceEq, Int.reduceNe, Int.reduceAdd, Int.reduceSub, Int.reduceMul, Int.reduceNeg, Int.reduceTDiv, Int.reduceTMod, Int.reduceMod, Int.reduceDiv, Nat.reduceMul, forall_const, implies_true, d_noriaref05_Small, List.length_map, sls_len, e1, d, m1, m2, hcondQ]) | ((with_reducible refine And.intro ?_ ?_); · first | trivial | omega | (simp; done) | (simp; omega)) | ((first | ((with_reducible refine dwp_condI (t := ?_) ?_ (fun hcQ => ?_) (fun hcQ => ?_)); rotate_left; · rfl) | ((with_reducible refine dops_guardI (t := ?_) ?_ (fun hcQ => ?_) (fun hcQ => ?_)); rotate_left; · rfl)) <;> (have hn := hcQ; have hcondQ := hcQ) <;> (try simp only [decide_eq_true_eq, decide_eq_false_iff_not, beq_iff_eq, bne_iff_ne, ne_eq, Bool.and_eq_true, Bool.or_eq_true, Bool.not_eq_true, Bool.not_eq_false, beq_eq_false_iff_ne, bne_eq_false_iff_eq, Bool.not_eq_true', Bool.not_eq_false', Int.ofNat_lt, Int.ofNat_le, Bool.or_eq_false_iff, Bool.and_eq_false_imp, Decidable.not_not, gt_iff_lt, ge_iff_le] at hn) <;> (try (exfalso; omega)) <;> (refine Todo.of ?_)) | (((with_reducible refine dwp_condA ?_ ?_ ?_); · rfl) <;> (refine Todo.of ?_))))
  refine dwp_loop (fun j : Nat => ⟨[(0, .sl (l.map cEn)), (3, .int .i64 k), (4, .int .i64 j)], []⟩) (fun j => j ≤ x.ct.length ∧ ∀ s ∈ x.ct.take j, (fun s : List UInt8 => decide (s.length ≤ 100)) s = true) (fun j => x.ct.length - j) 0 (by exact Nat.zero_le _) ?_ ⟨Nat.zero_le _, by simp⟩ fun j hj => ?_
  · simp only [cut_some, cut_none, List.map_cons, List.map_nil, get_cons, Nk.get_nil, Nat.reduceEqDiff, ↓reduceIte, Nat.succ_ne_self, DV.cut, DV.inB, DObj.cut, List.take_nil, List.take_zero, if_true, Nat.zero_ne_one, Nat.one_ne_zero, DV.inBL, Bool.and_true, Bool.true_and, reduceCtorEq, Nat.zero_lt_one, decide_true, decide_false, Nat.reduceLT, List.take_succ_cons]
    rfl
  obtain ⟨hj, hs⟩ := hj
  by_cases dj : j < x.ct.length
  rotate_left
  · have e := all_take dj hs
    have := n3 (by rw [hx]; exact e)
    (have hcondQ := Bool.and_self; refine Todo.of ?_; repeat' (first | ((with_reducible refine Todo.to ?_); try simp only [↓rP, rT, rU, eI, eU, eB, eS, eBs, eL, eA, buildCells, sepsD, sepB, hdl, dvalX, DOp.kind, dval, frameFrom, dBin, dInt, dStr, dBeq, dUn, dLoad, cellsAt, retV, retL, DR.val, fzT, fzVs, fzV, fz1, DV.immB, IntKind.bits, dCallP, viewVs, viewV, view1, capVL, capV, viewL, noMemV, noMem, elemsOf, dAppend, dAppz, dStore, DV.one, alive, freezeAt, fzLL, fzL, bRow, bU, cellsOf, setFrom, DV.isU, lenMax, lenCap, Nat.reduceEqDiff, Nat.reduceAdd, ↓reduceIte, reduceCtorEq, Nat.reduceSub, Int.reduceToNat, Int.reducePow, Nat.reducePow, Int.reduceLE, Int.reduceLT, Nat.reduceLeDiff, Nat.reduceLT, Int.reduceBEq, Int.reduceBNe, Int.reduceEq, Int.reduceNe, Int.reduceAdd, Int.reduceSub, Int.reduceMul, Int.reduceNeg, Int.reduceTDiv, Int.reduceTMod, Int.reduceMod, Int.reduceDiv, Nat.reduceMul, forall_const, implies_true, d_noriaref05_Small, List.length_map, sls_len, e1, d, dj, w, hcondQ]) | ((with_reducible refine And.intro ?_ ?_); · first | trivial | omega | (simp; done) | (simp; omega)) | ((first | ((with_reducible refine dwp_condI (t := ?_) ?_ (fun hcQ => ?_) (fun hcQ => ?_)); rotate_left; · rfl) | ((with_reducible refine dops_guardI (t := ?_) ?_ (fun hcQ => ?_) (fun hcQ => ?_)); rotate_left; · rfl)) <;> (have hn := hcQ; have hcondQ := hcQ) <;> (try simp only [decide_eq_true_eq, decide_eq_false_iff_not, beq_iff_eq, bne_iff_ne, ne_eq, Bool.and_eq_true, Bool.or_eq_true, Bool.not_eq_true, Bool.not_eq_false, beq_eq_false_iff_ne, bne_eq_false_iff_eq, Bool.not_eq_true', Bool.not_eq_false', Int.ofNat_lt, Int.ofNat_le, Bool.or_eq_false_iff, Bool.and_eq_false_imp, Decidable.not_not, gt_iff_lt, ge_iff_le] at hn) <;> (try (exfalso; omega)) <;> (refine Todo.of ?_)) | (((with_reducible refine dwp_condA ?_ ?_ ?_); · rfl) <;> (refine Todo.of ?_))))
    refine ⟨k + 1, ?_, ⟨by omega, this⟩, by omega⟩
    simp only [cut_some, cut_none, List.map_cons, List.map_nil, get_cons, Nk.get_nil, Nat.reduceEqDiff, ↓reduceIte, Nat.succ_ne_self, DV.cut, DV.inB, DObj.cut, List.take_nil, List.take_zero, if_true, Nat.zero_ne_one, Nat.one_ne_zero, DV.inBL, Bool.and_true, Bool.true_and, reduceCtorEq, Nat.zero_lt_one, decide_true, decide_false, Nat.reduceLT, List.take_succ_cons]
  have wj : IntKind.i64.wrap ((j : Int) + 1) = ((j + 1 : Nat) : Int) := by rw [wrap_i64_id (by omega)]; omega
  have e2 := sls_getD dj
  have n4 := @all_not _ (fun s : List UInt8 => decide (s.length ≤ 100)) x.ct [] j dj
  have n5 := @take_yes _ (fun s : List UInt8 => decide (s.length ≤ 100)) x.ct [] j dj hs
  generalize x.ct.getD j [] = y at *
  (have hcondQ := Bool.and_self; refine Todo.of ?_; repeat' (first | ((with_reducible refine Todo.to ?_); try simp only [↓rP, rT, rU, eI, eU, eB, eS, eBs, eL, eA, buildCells, sepsD, sepB, hdl, dvalX, DOp.kind, dval, frameFrom, dBin, dInt, dStr, dBeq, dUn, dLoad, cellsAt, retV, retL, DR.val, fzT, fzVs, fzV, fz1, DV.immB, IntKind.bits, dCallP, viewVs, viewV, view1, capVL, capV, viewL, noMemV, noMem, elemsOf, dAppend, dAppz, dStore, DV.one, alive, freezeAt, fzLL, fzL, bRow, bU, cellsOf, setFrom, DV.isU, lenMax, lenCap, Nat.reduceEqDiff, Nat.reduceAdd, ↓reduceIte, reduceCtorEq, Nat.reduceSub, Int.reduceToNat, Int.reducePow, Nat.reducePow, Int.reduceLE, Int.reduceLT, Nat.reduceLeDiff, Nat.reduceLT, Int.reduceBEq, Int.reduceBNe, Int.reduceEq, Int.reduceNe, Int.reduceAdd, Int.reduceSub, Int.reduceMul, Int.reduceNeg, Int.reduceTDiv, Int.reduceTMod, Int.reduceMod, Int.reduceDiv, Nat.reduceMul, forall_const, implies_true, d_noriaref05_Small, List.length_map, sls_len, e1, e2, d, dj, wj, hcondQ]) | ((with_reducible refine And.intro ?_ ?_); · first | trivial | omega | (simp; done) | (simp; omega)) | ((first | ((with_reducible refine dwp_condI (t := ?_) ?_ (fun hcQ => ?_) (fun hcQ => ?_)); rotate_left; · rfl) | ((with_reducible refine dops_guardI (t := ?_) ?_ (fun hcQ => ?_) (fun hcQ => ?_)); rotate_left; · rfl)) <;> (have hn := hcQ; have hcondQ := hcQ) <;> (try simp only [decide_eq_true_eq, decide_eq_false_iff_not, beq_iff_eq, bne_iff_ne, ne_eq, Bool.and_eq_true, Bool.or_eq_true, Bool.not_eq_true, Bool.not_eq_false, beq_eq_false_iff_ne, bne_eq_false_iff_eq, Bool.not_eq_true', Bool.not_eq_false', Int.ofNat_lt, Int.ofNat_le, Bool.or_eq_false_iff, Bool.and_eq_false_imp, Decidable.not_not, gt_iff_lt, ge_iff_le] at hn) <;> (try (exfalso; omega)) <;> (refine Todo.of ?_)) | (((with_reducible refine dwp_condA ?_ ?_ ?_); · rfl) <;> (refine Todo.of ?_))))
  all_goals first
    | (have := n2 (by rw [hx]; exact n4 (by simp only [decide_eq_false_iff_not]; omega))
       simp only [hr, this]; done)
    | (refine ⟨j + 1, ?_, ⟨by omega, fun s hs' => of_decide_eq_true (n5 (by simp only [decide_eq_true_eq]; omega) s hs')⟩, by omega⟩
       simp only [cut_some, cut_none, List.map_cons, List.map_nil, get_cons, Nk.get_nil, Nat.reduceEqDiff, ↓reduceIte, Nat.succ_ne_self, DV.cut, DV.inB, DObj.cut, List.take_nil, List.take_zero, if_true, Nat.zero_ne_one, Nat.one_ne_zero, DV.inBL, Bool.and_true, Bool.true_and, reduceCtorEq, Nat.zero_lt_one, decide_true, decide_false, Nat.reduceLT, List.take_succ_cons])
end Go.Proofs.YtaoabkpfidbogaaDoor

