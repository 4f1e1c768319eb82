/- Types, enums: which are right, how many cells, which are alike. -/
import Derived.Test.YtjgefhgkinocmaaGreatBa
import Derived.Test.YtjgefhgkinocmaaGreatIdx
import Derived.Test.YtjgefhgkinocmaaGreatNkZ3
set_option linter.all false
set_option maxRecDepth 20000
namespace Go.Proofs.YtjgefhgkinocmaaGreat
open Go.Nk

/-- A type. -/
structure Ty where
  k : Int
  e : Int
  n : Int
@[reducible] def cTy (t : Ty) : List DV := [.int .i64 t.k, .int .i64 t.e, .int .i64 t.n]
theorem cTy_inj : ∀ x y, cTy x = cTy y → x = y := fun x y h => by
  cases x; cases y
  simp only [cTy, List.cons.injEq, DV.int.injEq, true_and, and_true] at h
  obtain ⟨rfl, rfl, rfl⟩ := h
  rfl
instance : Inhabited Ty := ⟨⟨0, 0, 0⟩⟩
abbrev eTy : Ty → DV := eA cTy
theorem inj_Ty : Inj eTy := inj_A cTy_inj


/-- An enum. -/
structure En where
  name : List UInt8
  ct : List (List UInt8)
@[reducible] def cEn (x : En) : List DV := [.str x.name, .sl (sls x.ct)]
theorem cEn_inj : ∀ x y, cEn x = cEn y → x = y := fun x y h => by
  cases x; cases y
  simp only [cEn, List.cons.injEq, DV.str.injEq, DV.sl.injEq, and_true] at h
  obtain ⟨rfl, h2⟩ := h
  rw [sls_inj h2]
instance : Inhabited En := ⟨⟨[], []⟩⟩
abbrev eEns : List En → DV := eL cEn
theorem inj_Ens : Inj eEns := inj_L cEn_inj

def rightTy (l : List En) (t : Ty) : Bool :=
  decide (1 ≤ t.k) && decide (t.k ≤ 3) && decide (0 ≤ t.n) && decide (t.n ≤ 8) && (if t.k = 3 then decide (0 ≤ t.e) && decide (t.e < l.length) else t.e == 0)
noncomputable def s_RightTy : List DV → Prop × DV := spec2 eEns eTy fun l t => (True, .bool (rightTy l t))
theorem s_RightTy_at (l : List En) (t : Ty) : s_RightTy [.sl (l.map cEn), .agg (cTy t)] = (True, .bool (rightTy l t)) := spec2_at inj_Ens inj_Ty _ _ _
theorem ok_refRightTy : OkP Tryz.prog 36 s_RightTy := by
  refine OkP.mk2 (ps := []) (hs := []) trivial trivial m_noriaref05_Right fun l t _ => ?_
  (have hcondQ := Bool.and_self; refine Todo.of ?_; repeat' (first | ((with_reducible refine Todo.to ?_); try simp only [↓rP, rT, rU, dvalX, dval, dBin, dInt, dLoad, cellsAt, retV, DR.val, fzT, fzV, fz1, DV.immB, DV.one, alive, cellsOf, Nat.reduceEqDiff, Nat.reduceAdd, ↓reduceIte, reduceCtorEq, Nat.reduceLT, forall_const, d_noriaref05_Right, hcondQ]) | ((with_reducible refine And.intro ?_ ?_); · first | trivial | omega | (simp; done) | (simp; omega)) | ((first | ((with_reducible refine dwp_condI (t := ?_) ?_ (fun hcQ => ?_) (fun hcQ => ?_)); rotate_left; · rfl) | ((with_reducible refine dops_guardI (t := ?_) ?_ (fun hcQ => ?_) (fun hcQ => ?_)); rotate_left; · rfl)) <;> (have hn := hcQ; have hcondQ := hcQ) <;> (try simp only [decide_eq_true_eq, decide_eq_false_iff_not, beq_iff_eq, ne_eq, beq_eq_false_iff_ne] at hn) <;> (try (exfalso; omega)) <;> (refine Todo.of ?_)) | (((with_reducible refine dwp_condA ?_ ?_ ?_); · rfl) <;> (refine Todo.of ?_))))
  all_goals grind [rightTy]
theorem ok_RightTy : OkP Tryz.prog 105 s_RightTy := by
  refine OkP.mk2 (ps := []) (hs := []) trivial trivial m_ty_Right fun l t _ => ?_
  (have hcondQ := Bool.and_self; refine Todo.of ?_; repeat' (first | ((with_reducible refine Todo.to ?_); try simp only [↓rP, rT, rU, dvalX, dval, dBin, dInt, dLoad, cellsAt, retV, DR.val, fzT, fzV, fz1, DV.immB, DV.one, alive, cellsOf, Nat.reduceEqDiff, Nat.reduceAdd, ↓reduceIte, reduceCtorEq, Nat.reduceLT, forall_const, d_ty_Right, hcondQ]) | ((with_reducible refine And.intro ?_ ?_); · first | trivial | omega | (simp; done) | (simp; omega)) | ((first | ((with_reducible refine dwp_condI (t := ?_) ?_ (fun hcQ => ?_) (fun hcQ => ?_)); rotate_left; · rfl) | ((with_reducible refine dops_guardI (t := ?_) ?_ (fun hcQ => ?_) (fun hcQ => ?_)); rotate_left; · rfl)) <;> (have hn := hcQ; have hcondQ := hcQ) <;> (try simp only [decide_eq_true_eq, decide_eq_false_iff_not, beq_iff_eq, ne_eq, beq_eq_false_iff_ne] at hn) <;> (try (exfalso; omega)) <;> (refine Todo.of ?_)) | (((with_reducible refine dwp_condA ?_ ?_ ?_); · rfl) <;> (refine Todo.of ?_))))
  all_goals grind [rightTy]

def cellsTy (t : Ty) : Int := if t.n < 1 then 1 else if 8 < t.n then 8 else t.n
noncomputable def s_CellsTy : List DV → Prop × DV := spec1 eTy fun t => (True, .int .i64 (cellsTy t))
theorem s_CellsTy_at (t : Ty) : s_CellsTy [.agg (cTy t)] = (True, .int .i64 (cellsTy t)) := spec1_at inj_Ty _ _
theorem ok_refCellsTy : OkP Tryz.prog 30 s_CellsTy := by
  refine OkP.mk1 (ps := []) (hs := []) trivial trivial m_noriaref05_Cells fun t _ => ?_
  (have hcondQ := Bool.and_self; refine Todo.of ?_; repeat' (first | ((with_reducible refine Todo.to ?_); try simp only [↓rP, rT, rU, dvalX, dval, dBin, dInt, dLoad, cellsAt, retV, DR.val, fzT, fzV, fz1, DV.immB, DV.one, alive, cellsOf, Nat.reduceEqDiff, Nat.reduceAdd, ↓reduceIte, reduceCtorEq, forall_const, d_noriaref05_Cells, hcondQ]) | ((with_reducible refine And.intro ?_ ?_); · first | trivial | omega | (simp; done) | (simp; omega)) | ((first | ((with_reducible refine dwp_condI (t := ?_) ?_ (fun hcQ => ?_) (fun hcQ => ?_)); rotate_left; · rfl) | ((with_reducible refine dops_guardI (t := ?_) ?_ (fun hcQ => ?_) (fun hcQ => ?_)); rotate_left; · rfl)) <;> (have hn := hcQ; have hcondQ := hcQ) <;> (try simp only [decide_eq_true_eq, decide_eq_false_iff_not] at hn) <;> (try (exfalso; omega)) <;> (refine Todo.of ?_)) | (((with_reducible refine dwp_condA ?_ ?_ ?_); · rfl) <;> (refine Todo.of ?_))))
  all_goals grind [cellsTy]
theorem ok_CellsTy : OkP Tryz.prog 49 s_CellsTy := by
  refine OkP.mk1 (ps := []) (hs := []) trivial trivial m_ty_Cells fun t _ => ?_
  (have hcondQ := Bool.and_self; refine Todo.of ?_; repeat' (first | ((with_reducible refine Todo.to ?_); try simp only [↓rP, rT, rU, dvalX, dval, dLoad, cellsAt, retV, DR.val, fzT, fzV, fz1, DV.immB, DV.one, alive, cellsOf, Nat.reduceEqDiff, Nat.reduceAdd, ↓reduceIte, reduceCtorEq, forall_const, d_ty_Cells]) | ((with_reducible refine And.intro ?_ ?_); · first | trivial | omega | (simp; done) | (simp; omega)) | (((with_reducible refine dwp_condA ?_ ?_ ?_); · rfl) <;> (refine Todo.of ?_))))
  all_goals grind [cellsTy]

noncomputable def s_Names : List DV → Prop × DV := spec2 eSs eSs fun a b => (a.length ≤ 1000000000, .bool (decide (a = b)))
theorem s_Names_at (a b : List (List UInt8)) : s_Names [.sl (sls a), .sl (sls b)] = (a.length ≤ 1000000000, .bool (decide (a = b))) := spec2_at inj_Ss inj_Ss _ _ _
theorem ok_Equal : OkP Tryz.prog 122 s_Names := by
  refine OkP.mk2 (ps := []) (hs := []) trivial trivial m_slices_Equal_string_string fun a b h => ?_
  by_cases c : a.length = b.length
  rotate_left
  · have c1 : ((a.length : Int) != (b.length : Int)) = true := by simp; omega
    have c2 : decide (a = b) = false := by simp; intro e; rw [e] at c; exact c rfl
    (have hcondQ := Bool.and_self; refine Todo.of ?_; repeat' (first | ((with_reducible refine Todo.to ?_); try simp only [↓rP, rT, dvalX, dval, dBin, dInt, retV, DR.val, fzT, fzV, fz1, DV.immB, Nat.reduceEqDiff, ↓reduceIte, reduceCtorEq, d_slices_Equal_string_string, eSs, sls_len, c1, c2]) | ((with_reducible refine And.intro ?_ ?_); · first | trivial | omega | (simp; done) | (simp; omega)) | (((with_reducible refine dwp_condA ?_ ?_ ?_); · rfl) <;> (refine Todo.of ?_))))
  have c1 : ((a.length : Int) != (b.length : Int)) = false := by simp; omega
  (have hcondQ := Bool.and_self; refine Todo.of ?_; repeat' (first | ((with_reducible refine Todo.to ?_); try simp only [↓rP, rT, dvalX, dval, dBin, dInt, Nat.reduceEqDiff, ↓reduceIte, reduceCtorEq, d_slices_Equal_string_string, eSs, sls_len, c1]) | ((with_reducible refine And.intro ?_ ?_); · first | trivial | omega | (simp; done) | (simp; omega)) | (((with_reducible refine dwp_condA ?_ ?_ ?_); · rfl) <;> (refine Todo.of ?_))))
  refine dwp_loop (fun k : Nat => ⟨[(0, .sl (sls a)), (1, .sl (sls b)), (12, .int .i64 a.length), (13, .int .i64 k)], []⟩) (fun k => k ≤ a.length ∧ a.take k = b.take k) (fun k => a.length - k) 0 (by exact Nat.zero_le _) ?_ ⟨Nat.zero_le _, rfl⟩ fun k hk => ?_
  · simp only [cut_some, List.map_cons, List.map_nil, get_cons, Nk.get_nil, Nat.reduceEqDiff, ↓reduceIte, Nat.succ_ne_self, DV.cut, DV.inB, List.take_nil, reduceCtorEq]
    rfl
  obtain ⟨hk, ht⟩ := hk
  have h' : a.length ≤ 1000000000 := h
  by_cases d : k < a.length
  · have w : IntKind.i64.wrap ((k : Int) + 1) = ((k + 1 : Nat) : Int) := by rw [wrap_i64_id (by omega)]; omega
    have e1 := sls_getD d
    have e2 := sls_getD (l := b) (i := k) (by omega)
    have d2 : k < b.length := by omega
    (have hcondQ := Bool.and_self; refine Todo.of ?_; repeat' (first | ((with_reducible refine Todo.to ?_); try simp only [↓rP, rT, rU, dvalX, dval, dBin, dInt, dStr, dLoad, cellsAt, retV, DR.val, fzT, fzV, fz1, DV.immB, Nat.reduceEqDiff, ↓reduceIte, reduceCtorEq, sls_len, e1, e2, d, d2, w, hcondQ]) | ((with_reducible refine And.intro ?_ ?_); · first | trivial | omega | (simp; done) | (simp; omega)) | ((first | ((with_reducible refine dwp_condI (t := ?_) ?_ (fun hcQ => ?_) (fun hcQ => ?_)); rotate_left; · rfl) | ((with_reducible refine dops_guardI (t := ?_) ?_ (fun hcQ => ?_) (fun hcQ => ?_)); rotate_left; · rfl)) <;> (have hn := hcQ; have hcondQ := hcQ) <;> (try simp only [beq_iff_eq, ne_eq, beq_eq_false_iff_ne, Bool.not_eq_true', Bool.not_eq_false'] at hn) <;> (try (exfalso; omega)) <;> (refine Todo.of ?_)) | (((with_reducible refine dwp_condA ?_ ?_ ?_); · rfl) <;> (refine Todo.of ?_))))
    · have : a ≠ b := fun e => by subst e; simp_all
      simp [this]
    · refine ⟨k + 1, ?_, ⟨by omega, getD_eqS d d2 ht (by simp_all)⟩, by omega⟩
      simp only [cut_some, List.map_cons, List.map_nil, get_cons, Nk.get_nil, Nat.reduceEqDiff, ↓reduceIte, Nat.succ_ne_self, DV.cut, DV.inB, List.take_nil, reduceCtorEq]
  · have e : a = b := by
      have hk2 : k = a.length := by omega
      rw [hk2, List.take_length, c, List.take_length] at ht
      exact ht
    (have hcondQ := Bool.and_self; refine Todo.of ?_; repeat' (first | ((with_reducible refine Todo.to ?_); try simp only [↓rP, rT, rU, dvalX, dval, dBin, dInt, retV, DR.val, fzT, fzV, fz1, DV.immB, Nat.reduceEqDiff, ↓reduceIte, reduceCtorEq, e, hcondQ]) | ((with_reducible refine And.intro ?_ ?_); · first | trivial | omega | (simp; done) | (simp; omega)) | ((first | ((with_reducible refine dwp_condI (t := ?_) ?_ (fun hcQ => ?_) (fun hcQ => ?_)); rotate_left; · rfl) | ((with_reducible refine dops_guardI (t := ?_) ?_ (fun hcQ => ?_) (fun hcQ => ?_)); rotate_left; · rfl)) <;> (have hn := hcQ; have hcondQ := hcQ) <;> (try simp only [decide_eq_true_eq, decide_eq_false_iff_not] at hn) <;> (try (exfalso; omega)) <;> (refine Todo.of ?_)) | (((with_reducible refine dwp_condA ?_ ?_ ?_); · rfl) <;> (refine Todo.of ?_))))
end Go.Proofs.YtjgefhgkinocmaaGreat

/- Which types of two lists are alike. -/
set_option linter.all false
set_option maxRecDepth 20000
namespace Go.Proofs.YtjgefhgkinocmaaGreat
open Go.Nk

def fewEn (l : List En) : Prop := ∀ x ∈ l, x.ct.length ≤ 1000000000
def sameEn (x y : En) : Bool := decide (x.name = y.name) && decide (x.ct = y.ct)
def alikeF (a : List En) (t : Ty) (b : List En) (u : Ty) : Bool :=
  rightTy a t && rightTy b u && t.k == u.k && t.n == u.n && (if t.k = 3 then sameEn (a.getD t.e.toNat default) (b.getD u.e.toNat default) else true)
noncomputable def s_Alike : List DV → Prop × DV := spec4 eEns eTy eEns eTy fun a t b u => (fewEn a ∧ fewEn b, .bool (alikeF a t b u))
theorem s_Alike_at (a : List En) (t : Ty) (b : List En) (u : Ty) : s_Alike [.sl (a.map cEn), .agg (cTy t), .sl (b.map cEn), .agg (cTy u)] = (fewEn a ∧ fewEn b, .bool (alikeF a t b u)) := spec4_at inj_Ens inj_Ty inj_Ens inj_Ty _ _ _ _ _
theorem en_getD {l : List En} {j : Nat} (h : j < l.length) : (l.map cEn).getD j [] = cEn (l.getD j default) := by simp [h]
theorem fewEn_at {l : List En} (h : fewEn l) (j : Nat) : (l.getD j default).ct.length ≤ 1000000000 := by
  by_cases hj : j < l.length
  · have : l.getD j default = l[j] := by simp [hj]
    rw [this]; exact h _ (List.getElem_mem hj)
  · have : l.getD j default = default := by simp [hj]
    rw [this]; exact Nat.zero_le _
theorem enum_at {l : List En} {t : Ty} (h : rightTy l t = true) (hk : t.k = 3) : ∃ j : Nat, t.e = j ∧ j < l.length := by
  simp only [rightTy, hk, if_true, Bool.and_eq_true, decide_eq_true_eq] at h
  exact ⟨t.e.toNat, by omega, by omega⟩
theorem ok_Alike : OkP Tryz.prog 106 s_Alike := by
  refine OkP.mk4 (ps := [(105, s_RightTy), (122, s_Names)]) (hs := []) ⟨ok_RightTy, ok_Equal, trivial⟩ trivial m_ty_Alike fun a t b u h => ?_
  obtain ⟨ha, hb⟩ := h
  have e1 := s_RightTy_at a t
  have e2 := s_RightTy_at b u
  simp only [cTy] at e1 e2
  by_cases q : rightTy a t = true ∧ rightTy b u = true ∧ t.k = u.k ∧ t.n = u.n
  rotate_left
  · (have hcondQ := Bool.and_self; refine Todo.of ?_; repeat' (first | ((with_reducible refine Todo.to ?_); try simp only [↓rP, rT, rU, sepsD, dvalX, DOp.kind, dval, dBin, dInt, dStr, dUn, dLoad, cellsAt, retV, DR.val, fzT, fzV, fz1, DV.immB, dCallP, viewVs, viewV, view1, viewL, noMemV, noMem, dStore, DV.one, alive, cellsOf, Nat.reduceEqDiff, Nat.reduceAdd, ↓reduceIte, reduceCtorEq, Nat.reduceLeDiff, Nat.reduceLT, d_ty_Alike, e1, e2, hcondQ]) | ((with_reducible refine And.intro ?_ ?_); · first | trivial | omega | (simp; done) | (simp; omega)) | ((first | ((with_reducible refine dwp_condI (t := ?_) ?_ (fun hcQ => ?_) (fun hcQ => ?_)); rotate_left; · rfl) | ((with_reducible refine dops_guardI (t := ?_) ?_ (fun hcQ => ?_) (fun hcQ => ?_)); rotate_left; · rfl)) <;> (have hn := hcQ; have hcondQ := hcQ) <;> (try simp only [bne_iff_ne, ne_eq, bne_eq_false_iff_eq, Bool.not_eq_true', Bool.not_eq_false'] at hn) <;> (try (exfalso; omega)) <;> (refine Todo.of ?_)) | (((with_reducible refine dwp_condA ?_ ?_ ?_); · rfl) <;> (refine Todo.of ?_))))
    all_goals grind [alikeF]
  obtain ⟨q1, q2, q3, q4⟩ := q
  have n3 : (t.k != u.k) = false := by simp [q3]
  have n4 : (t.n != u.n) = false := by simp [q4]
  by_cases k3 : t.k = 3
  · obtain ⟨i, hi, li⟩ := enum_at q1 k3
    obtain ⟨j, hj, lj⟩ := enum_at q2 (q3 ▸ k3)
    have g1 := en_getD li
    have g2 := en_getD lj
    simp only [cEn] at g1 g2
    have f1 := fewEn_at ha i
    have hr : alikeF a t b u = sameEn (a.getD i default) (b.getD j default) := by
      simp only [alikeF, q1, q2, q3, q4, hi, hj, Int.toNat_natCast, beq_self_eq_true, Bool.and_true, Bool.true_and]
      rw [if_pos (q3 ▸ k3)]
    have e3 := s_Names_at (a.getD i default).ct (b.getD j default).ct
    rw [eq_true f1] at e3
    have n5 : (t.k != 3) = false := by simp [k3]
    rw [hr]
    rw [hi] at e1
    rw [hj] at e2
    generalize hx : a.getD i default = x at *
    generalize hy : b.getD j default = y at *
    (have hcondQ := Bool.and_self; refine Todo.of ?_; repeat' (first | ((with_reducible refine Todo.to ?_); try simp only [↓rP, rT, rU, sepsD, dvalX, DOp.kind, dval, dBin, dInt, dStr, dUn, dLoad, cellsAt, retV, DR.val, fzT, fzV, fz1, DV.immB, dCallP, viewVs, viewV, view1, viewL, noMemV, noMem, dStore, DV.one, alive, cellsOf, setFrom, Nat.reduceEqDiff, Nat.reduceAdd, ↓reduceIte, reduceCtorEq, Nat.reduceLeDiff, Nat.reduceLT, forall_const, d_ty_Alike, e1, e2, q1, q2, n3, n4, n5, hi, hj, li, lj, g1, g2, e3, hcondQ]) | ((with_reducible refine And.intro ?_ ?_); · first | trivial | omega | (simp; done) | (simp; omega)) | ((first | ((with_reducible refine dwp_condI (t := ?_) ?_ (fun hcQ => ?_) (fun hcQ => ?_)); rotate_left; · rfl) | ((with_reducible refine dops_guardI (t := ?_) ?_ (fun hcQ => ?_) (fun hcQ => ?_)); rotate_left; · rfl)) <;> (have hn := hcQ; have hcondQ := hcQ) <;> (try simp only [beq_iff_eq, ne_eq, beq_eq_false_iff_ne] at hn) <;> (try (exfalso; omega)) <;> (refine Todo.of ?_)) | (((with_reducible refine dwp_condA ?_ ?_ ?_); · rfl) <;> (refine Todo.of ?_))))
    all_goals grind [sameEn]
  · have hr : alikeF a t b u = true := by
      simp only [alikeF, q1, q2, q3, q4, beq_self_eq_true, Bool.and_true, Bool.true_and]
      rw [if_neg (q3 ▸ k3)]
    have n5 : (t.k != 3) = true := by simp [k3]
    (have hcondQ := Bool.and_self; refine Todo.of ?_; repeat' (first | ((with_reducible refine Todo.to ?_); try simp only [↓rP, rT, rU, dvalX, dval, dBin, dInt, dUn, dLoad, cellsAt, retV, DR.val, fzT, fzV, fz1, DV.immB, dCallP, viewVs, viewV, view1, viewL, noMemV, noMem, cellsOf, Nat.reduceEqDiff, Nat.reduceAdd, ↓reduceIte, reduceCtorEq, Nat.reduceLeDiff, Nat.reduceLT, d_ty_Alike, e1, e2, q1, q2, n3, n4, n5, hr, hcondQ]) | ((with_reducible refine And.intro ?_ ?_); · first | trivial | omega | (simp; done) | (simp; omega)) | (((with_reducible refine dwp_condA ?_ ?_ ?_); · rfl) <;> (refine Todo.of ?_))))
end Go.Proofs.YtjgefhgkinocmaaGreat

/- Ports, slots, images; which images have the same inputs and outputs. -/
set_option linter.all false
set_option maxRecDepth 20000
namespace Go.Proofs.YtjgefhgkinocmaaGreat
open Go.Nk


/-- A port. -/
structure Prt where
  name : List UInt8
  ty : Ty
@[reducible] def cPrt (p : Prt) : List DV := [.str p.name, .int .i64 p.ty.k, .int .i64 p.ty.e, .int .i64 p.ty.n]
theorem cPrt_inj : ∀ x y, cPrt x = cPrt y → x = y := fun x y h => by
  obtain ⟨n, k, e, m⟩ := x; obtain ⟨n', k', e', m'⟩ := y
  simp only [cPrt, List.cons.injEq, DV.str.injEq, DV.int.injEq, true_and, and_true] at h
  obtain ⟨rfl, rfl, rfl, rfl⟩ := h
  rfl
instance : Inhabited Prt := ⟨⟨[], default⟩⟩
/-- What is kept. -/
structure Slt where
  path : List UInt8
  ty : Ty
  at_ : Int
  ini : List Int
@[reducible] def cSlt (s : Slt) : List DV := [.str s.path, .int .i64 s.ty.k, .int .i64 s.ty.e, .int .i64 s.ty.n, .int .i64 s.at_, .sl (ils s.ini)]
theorem cSlt_inj : ∀ x y, cSlt x = cSlt y → x = y := fun x y h => by
  obtain ⟨n, ⟨k, e, m⟩, a, i⟩ := x; obtain ⟨n', ⟨k', e', m'⟩, a', i'⟩ := y
  simp only [cSlt, List.cons.injEq, DV.str.injEq, DV.int.injEq, DV.sl.injEq, true_and, and_true] at h
  obtain ⟨rfl, rfl, rfl, rfl, rfl, h⟩ := h
  rw [ils_inj h]
instance : Inhabited Slt := ⟨⟨[], default, 0, []⟩⟩

@[reducible] def cIn4 (x : In4) : List DV := [.int .i64 x.op, .int .i64 x.a, .int .i64 x.b, .int .i64 x.n]
theorem cIn4_inj : ∀ x y, cIn4 x = cIn4 y → x = y := fun x y h => by
  cases x; cases y
  simp only [cIn4, List.cons.injEq, DV.int.injEq, true_and, and_true] at h
  obtain ⟨rfl, rfl, rfl, rfl⟩ := h
  rfl

/-- An image. -/
structure Img where
  en : List En
  ins : List Prt
  outs : List Prt
  slots : List Slt
  loc : List Int
  code : List In4
@[reducible] def cImg (x : Img) : List DV := [.sl (x.en.map cEn), .sl (x.ins.map cPrt), .sl (x.outs.map cPrt), .sl (x.slots.map cSlt), .sl (ils x.loc), .sl (x.code.map cIn4)]
theorem cImg_inj : ∀ x y, cImg x = cImg y → x = y := fun x y h => by
  cases x; cases y
  simp only [cImg, List.cons.injEq, DV.sl.injEq, and_true] at h
  obtain ⟨h1, h2, h3, h4, h5, h6⟩ := h
  rw [map_inj cEn_inj _ _ h1, map_inj cPrt_inj _ _ h2, map_inj cPrt_inj _ _ h3, map_inj cSlt_inj _ _ h4, ils_inj h5, map_inj cIn4_inj _ _ h6]
abbrev eImg : Img → DV := eA cImg
theorem inj_Img : Inj eImg := inj_A cImg_inj

end Go.Proofs.YtjgefhgkinocmaaGreat

/- Which images have the same inputs and outputs. -/
set_option linter.all false
set_option maxRecDepth 20000
namespace Go.Proofs.YtjgefhgkinocmaaGreat
open Go.Nk

end Go.Proofs.YtjgefhgkinocmaaGreat

/- Which values a type has. -/
set_option linter.all false
set_option maxRecDepth 20000
namespace Go.Proofs.YtjgefhgkinocmaaGreat
open Go.Nk

def oneV (l : List En) (t : Ty) (n : Int) : Bool := if t.k = 2 then n == 0 || n == 1 else t.k == 1 || (decide (0 ≤ n) && decide (n < (l.getD t.e.toNat default).ct.length))
def oneF (l : List En) (t : Ty) (n : Int) : Bool := rightTy l t && oneV l t n
noncomputable def s_One : List DV → Prop × DV := spec3 eEns eTy eI fun l t n => (True, .bool (oneF l t n))
theorem s_One_at (l : List En) (t : Ty) (n : Int) : s_One [.sl (l.map cEn), .agg (cTy t), .int .i64 n] = (True, .bool (oneF l t n)) := spec3_at inj_Ens inj_Ty inj_I _ _ _ _
theorem kind_at {l : List En} {t : Ty} (h : rightTy l t = true) : t.k = 1 ∨ t.k = 2 ∨ t.k = 3 := by
  simp only [rightTy, Bool.and_eq_true, decide_eq_true_eq] at h
  omega
theorem ok_refOne : OkP Tryz.prog 44 s_One := by
  refine OkP.mk3 (ps := [(36, s_RightTy)]) (hs := []) ⟨ok_refRightTy, trivial⟩ trivial m_noriaref06_One fun l t n _ => ?_
  have e1 := s_RightTy_at l t
  simp only [cTy] at e1
  by_cases q : rightTy l t = true
  rotate_left
  · (have hcondQ := Bool.and_self; refine Todo.of ?_; repeat' (first | ((with_reducible refine Todo.to ?_); try simp only [↓rP, rT, rU, eI, dvalX, dval, dUn, dLoad, cellsAt, retV, DR.val, fzT, fzV, fz1, DV.immB, dCallP, viewVs, viewV, view1, viewL, noMemV, noMem, DV.one, cellsOf, Nat.reduceEqDiff, Nat.reduceAdd, ↓reduceIte, reduceCtorEq, Nat.reduceLeDiff, forall_const, d_noriaref06_One, e1, q]) | ((with_reducible refine And.intro ?_ ?_); · first | trivial | omega | (simp; done) | (simp; omega)) | (((with_reducible refine dwp_condA ?_ ?_ ?_); · rfl) <;> (refine Todo.of ?_))))
    all_goals grind [oneF]
  have hr : oneF l t n = oneV l t n := by simp [oneF, q]
  rw [hr]
  rcases kind_at q with k | k | k
  · have k1 : (t.k == 1) = true := by simp [k]
    have k2 : (t.k == 2) = false := by simp [k]
    (have hcondQ := Bool.and_self; refine Todo.of ?_; repeat' (first | ((with_reducible refine Todo.to ?_); try simp only [↓rP, rT, rU, eI, dvalX, dval, dBin, dInt, dUn, dLoad, cellsAt, retV, DR.val, fzT, fzV, fz1, DV.immB, dCallP, viewVs, viewV, view1, viewL, noMemV, noMem, DV.one, alive, cellsOf, Nat.reduceEqDiff, Nat.reduceAdd, ↓reduceIte, reduceCtorEq, Nat.reduceLeDiff, Nat.reduceLT, forall_const, d_noriaref06_One, e1, q, k1, k2]) | ((with_reducible refine And.intro ?_ ?_); · first | trivial | omega | (simp; done) | (simp; omega)) | (((with_reducible refine dwp_condA ?_ ?_ ?_); · rfl) <;> (refine Todo.of ?_))))
    all_goals grind [oneV]
  · have k2 : (t.k == 2) = true := by simp [k]
    (have hcondQ := Bool.and_self; refine Todo.of ?_; repeat' (first | ((with_reducible refine Todo.to ?_); try simp only [↓rP, rT, rU, eI, dvalX, dval, dBin, dInt, dUn, dLoad, cellsAt, retV, DR.val, fzT, fzV, fz1, DV.immB, dCallP, viewVs, viewV, view1, viewL, noMemV, noMem, DV.one, alive, cellsOf, Nat.reduceEqDiff, Nat.reduceAdd, ↓reduceIte, reduceCtorEq, Nat.reduceLeDiff, Nat.reduceLT, forall_const, d_noriaref06_One, e1, q, k2, hcondQ]) | ((with_reducible refine And.intro ?_ ?_); · first | trivial | omega | (simp; done) | (simp; omega)) | ((first | ((with_reducible refine dwp_condI (t := ?_) ?_ (fun hcQ => ?_) (fun hcQ => ?_)); rotate_left; · rfl) | ((with_reducible refine dops_guardI (t := ?_) ?_ (fun hcQ => ?_) (fun hcQ => ?_)); rotate_left; · rfl)) <;> (have hn := hcQ; have hcondQ := hcQ) <;> (try simp only [beq_iff_eq, ne_eq, beq_eq_false_iff_ne] at hn) <;> (try (exfalso; omega)) <;> (refine Todo.of ?_)) | (((with_reducible refine dwp_condA ?_ ?_ ?_); · rfl) <;> (refine Todo.of ?_))))
    all_goals grind [oneV]
  · have k1 : (t.k == 1) = false := by simp [k]
    have k2 : (t.k == 2) = false := by simp [k]
    obtain ⟨i, hi, li⟩ := enum_at q k
    have g1 := en_getD li
    simp only [cEn] at g1
    have hv : oneV l t n = (decide (0 ≤ n) && decide (n < (l.getD i default).ct.length)) := by
      unfold oneV
      rw [if_neg (by omega), k1, hi]
      rfl
    rw [hv]
    rw [hi] at e1
    generalize l.getD i default = x at *
    (have hcondQ := Bool.and_self; refine Todo.of ?_; repeat' (first | ((with_reducible refine Todo.to ?_); try simp only [↓rP, rT, rU, eI, dvalX, dval, dBin, dInt, dUn, dLoad, cellsAt, retV, DR.val, fzT, fzV, fz1, DV.immB, dCallP, viewVs, viewV, view1, viewL, noMemV, noMem, DV.one, alive, cellsOf, Nat.reduceEqDiff, Nat.reduceAdd, ↓reduceIte, reduceCtorEq, Nat.reduceLeDiff, Nat.reduceLT, forall_const, d_noriaref06_One, sls_len, e1, q, k1, k2, hi, li, g1, hcondQ]) | ((with_reducible refine And.intro ?_ ?_); · first | trivial | omega | (simp; done) | (simp; omega)) | ((first | ((with_reducible refine dwp_condI (t := ?_) ?_ (fun hcQ => ?_) (fun hcQ => ?_)); rotate_left; · rfl) | ((with_reducible refine dops_guardI (t := ?_) ?_ (fun hcQ => ?_) (fun hcQ => ?_)); rotate_left; · rfl)) <;> (have hn := hcQ; have hcondQ := hcQ) <;> (try simp only [decide_eq_true_eq, decide_eq_false_iff_not] at hn) <;> (try (exfalso; omega)) <;> (refine Todo.of ?_)) | (((with_reducible refine dwp_condA ?_ ?_ ?_); · rfl) <;> (refine Todo.of ?_))))
    all_goals grind
end Go.Proofs.YtjgefhgkinocmaaGreat

/- Which lists of numbers a type has; how many numbers what is kept has, and what is kept at first. -/
set_option linter.all false
set_option maxRecDepth 20000
namespace Go.Proofs.YtjgefhgkinocmaaGreat
open Go.Nk

def rightV (l : List En) (t : Ty) (v : List Int) : Bool := rightTy l t && (v.length : Int) == cellsTy t && v.all (oneF l t)
noncomputable def s_RightV : List DV → Prop × DV := spec3 eEns eTy eIls fun l t v => (v.length ≤ 1000000000, .bool (rightV l t v))
theorem s_RightV_at (l : List En) (t : Ty) (v : List Int) : s_RightV [.sl (l.map cEn), .agg (cTy t), .sl (ils v)] = (v.length ≤ 1000000000, .bool (rightV l t v)) := spec3_at inj_Ens inj_Ty inj_Ils _ _ _ _
theorem ok_refRightV : OkP Tryz.prog 19 s_RightV := by
  refine OkP.mk3 (ps := [(36, s_RightTy), (30, s_CellsTy), (44, s_One)]) (hs := []) ⟨ok_refRightTy, ok_refCellsTy, ok_refOne, trivial⟩ trivial m_noriaref06_Right fun l t v h => ?_
  have e1 := s_RightTy_at l t
  have e2 := s_CellsTy_at t
  simp only [cTy] at e1 e2
  by_cases q : rightTy l t = true ∧ (v.length : Int) = cellsTy t
  rotate_left
  · (have hcondQ := Bool.and_self; refine Todo.of ?_; repeat' (first | ((with_reducible refine Todo.to ?_); try simp only [↓rP, rT, rU, dvalX, dval, dBin, dInt, dUn, dLoad, cellsAt, retV, DR.val, fzT, fzV, fz1, DV.immB, dCallP, viewVs, viewV, view1, viewL, noMemV, noMem, DV.one, cellsOf, Nat.reduceEqDiff, Nat.reduceAdd, ↓reduceIte, reduceCtorEq, Nat.reduceLeDiff, forall_const, d_noriaref06_Right, eIls, ils_len, e1, e2, hcondQ]) | ((with_reducible refine And.intro ?_ ?_); · first | trivial | omega | (simp; done) | (simp; omega)) | ((first | ((with_reducible refine dwp_condI (t := ?_) ?_ (fun hcQ => ?_) (fun hcQ => ?_)); rotate_left; · rfl) | ((with_reducible refine dops_guardI (t := ?_) ?_ (fun hcQ => ?_) (fun hcQ => ?_)); rotate_left; · rfl)) <;> (have hn := hcQ; have hcondQ := hcQ) <;> (try simp only [bne_iff_ne, ne_eq, bne_eq_false_iff_eq, Bool.not_eq_true', Bool.not_eq_false'] at hn) <;> (try (exfalso; omega)) <;> (refine Todo.of ?_)) | (((with_reducible refine dwp_condA ?_ ?_ ?_); · rfl) <;> (refine Todo.of ?_))))
    all_goals grind [rightV]
  obtain ⟨q1, q2⟩ := q
  have n1 : ((v.length : Int) != cellsTy t) = false := by simp [q2]
  have hr : rightV l t v = v.all (oneF l t) := by simp [rightV, q1, q2]
  (have hcondQ := Bool.and_self; refine Todo.of ?_; repeat' (first | ((with_reducible refine Todo.to ?_); try simp only [↓rP, rT, rU, dvalX, dval, dBin, dInt, dUn, dLoad, cellsAt, DV.immB, dCallP, viewVs, viewV, view1, viewL, noMemV, noMem, DV.one, cellsOf, Nat.reduceEqDiff, Nat.reduceAdd, ↓reduceIte, reduceCtorEq, Nat.reduceLeDiff, forall_const, d_noriaref06_Right, eIls, ils_len, e1, e2, q1, n1]) | ((with_reducible refine And.intro ?_ ?_); · first | trivial | omega | (simp; done) | (simp; omega)) | (((with_reducible refine dwp_condA ?_ ?_ ?_); · rfl) <;> (refine Todo.of ?_))))
  refine dwp_loop (fun k : Nat => ⟨[(0, .sl (l.map cEn)), (2, .sl (ils v)), (4, .ptr 0 1 0 0), (7, .int .i64 k)], [⟨.loc, 3, [cTy t]⟩]⟩) (fun k => k ≤ v.length ∧ ∀ x ∈ v.take k, (fun n => !oneF l t n) x = false) (fun k => v.length - k) 0 (by exact Nat.zero_le _) ?_ ⟨Nat.zero_le _, by simp⟩ fun k hk => ?_
  · simp only [cut_some, List.map_cons, List.map_nil, get_cons, Nk.get_nil, Nat.reduceEqDiff, ↓reduceIte, Nat.succ_ne_self, DV.cut, DV.inB, DObj.cut, List.take_nil, reduceCtorEq, Nat.zero_lt_one, decide_true, List.take_succ_cons]
    rfl
  obtain ⟨hk, ht⟩ := hk
  have hl : v.length ≤ 1000000000 := h
  by_cases d : k < v.length
  · have w : IntKind.i64.wrap ((k : Int) + 1) = ((k + 1 : Nat) : Int) := by rw [wrap_i64_id (by omega)]; omega
    have e3 := ils_getD d
    have e4 := s_One_at l t (v.getD k 0)
    simp only [cTy] at e4
    (have hcondQ := Bool.and_self; refine Todo.of ?_; repeat' (first | ((with_reducible refine Todo.to ?_); try simp only [↓rP, rT, rU, dvalX, dval, dBin, dInt, dUn, dLoad, cellsAt, retV, DR.val, fzT, fzV, fz1, DV.immB, dCallP, viewVs, viewV, view1, viewL, noMemV, noMem, Nat.reduceEqDiff, Nat.reduceAdd, ↓reduceIte, reduceCtorEq, Nat.reduceLeDiff, ils_len, e3, e4, d, w, hcondQ]) | ((with_reducible refine And.intro ?_ ?_); · first | trivial | omega | (simp; done) | (simp; omega)) | ((first | ((with_reducible refine dwp_condI (t := ?_) ?_ (fun hcQ => ?_) (fun hcQ => ?_)); rotate_left; · rfl) | ((with_reducible refine dops_guardI (t := ?_) ?_ (fun hcQ => ?_) (fun hcQ => ?_)); rotate_left; · rfl)) <;> (have hn := hcQ; have hcondQ := hcQ) <;> (try simp only [Bool.not_eq_true', Bool.not_eq_false'] at hn) <;> (try (exfalso; omega)) <;> (refine Todo.of ?_)) | (((with_reducible refine dwp_condA ?_ ?_ ?_); · rfl) <;> (refine Todo.of ?_))))
    · have : v.all (oneF l t) = false := by
        rw [List.all_eq_false]
        exact ⟨v[k], List.getElem_mem d, by simp_all⟩
      simp [hr, this]
    · refine ⟨k + 1, ?_, ⟨by omega, take_noI d ht (by simp_all)⟩, by omega⟩
      simp only [cut_some, List.map_cons, List.map_nil, get_cons, Nk.get_nil, Nat.reduceEqDiff, ↓reduceIte, DV.cut, DV.inB, DObj.cut, List.take_nil, reduceCtorEq, Nat.zero_lt_one, decide_true, List.take_succ_cons]
  · have hk2 : k = v.length := by omega
    have hc : v.all (oneF l t) = true := by
      rw [hk2, List.take_length] at ht
      rw [List.all_eq_true]
      intro x hx
      simpa using ht x hx
    rw [hc] at hr
    (have hcondQ := Bool.and_self; refine Todo.of ?_; repeat' (first | ((with_reducible refine Todo.to ?_); try simp only [↓rP, rT, rU, dvalX, dval, dBin, dInt, retV, DR.val, fzT, fzV, fz1, DV.immB, Nat.reduceEqDiff, ↓reduceIte, reduceCtorEq, ils_len, d, hr]) | ((with_reducible refine And.intro ?_ ?_); · first | trivial | omega | (simp; done) | (simp; omega)) | (((with_reducible refine dwp_condA ?_ ?_ ?_); · rfl) <;> (refine Todo.of ?_))))

/-- How many numbers. -/
def sumC (l : List Slt) : Int := l.foldl (fun n s => n + cellsTy s.ty) 0
theorem cellsTy_b (t : Ty) : 1 ≤ cellsTy t ∧ cellsTy t ≤ 8 := by
  unfold cellsTy
  by_cases h1 : t.n < 1
  · rw [if_pos h1]; omega
  · rw [if_neg h1]
    by_cases h2 : 8 < t.n
    · rw [if_pos h2]; omega
    · rw [if_neg h2]; omega
theorem sumC_take {l : List Slt} {k : Nat} (h : k < l.length) : sumC (l.take (k + 1)) = sumC (l.take k) + cellsTy (l.getD k default).ty := by
  have e : l.getD k default = l[k] := by simp [h]
  have e2 : l[k]? = some l[k] := List.getElem?_eq_getElem h
  rw [List.take_add_one, e, e2]
  simp only [sumC, List.foldl_append, Option.toList_some, List.foldl_cons, List.foldl_nil]
theorem sumC_b : ∀ (l : List Slt) (k : Nat), k ≤ l.length → 0 ≤ sumC (l.take k) ∧ sumC (l.take k) ≤ 8 * k
  | l, 0, _ => by simp [sumC]
  | l, k + 1, h => by
    have ih := sumC_b l k (by omega)
    rw [sumC_take (by omega)]
    have := cellsTy_b (l.getD k default).ty
    omega
abbrev eSlts : List Slt → DV := eL cSlt
theorem inj_Slts : Inj eSlts := inj_L cSlt_inj
theorem slt_getD {l : List Slt} {j : Nat} (h : j < l.length) : (l.map cSlt).getD j [] = cSlt (l.getD j default) := by simp [h]
noncomputable def s_SumC : List DV → Prop × DV := spec1 eSlts fun l => (l.length ≤ 1000000000, .int .i64 (sumC l))
theorem s_SumC_at (l : List Slt) : s_SumC [.sl (l.map cSlt)] = (l.length ≤ 1000000000, .int .i64 (sumC l)) := spec1_at inj_Slts _ _
theorem ok_refSumC : OkP Tryz.prog 18 s_SumC := by
  refine OkP.mk1 (ps := [(30, s_CellsTy)]) (hs := []) ⟨ok_refCellsTy, trivial⟩ trivial m_noriaref27_Cells fun l h => ?_
  have hl : l.length ≤ 1000000000 := h
  (have hcondQ := Bool.and_self; refine Todo.of ?_; repeat' (first | ((with_reducible refine Todo.to ?_); try simp only [↓rP, rT, dvalX, dval, d_noriaref27_Cells]) | ((with_reducible refine And.intro ?_ ?_); · first | trivial | omega | (simp; done) | (simp; omega)) | (((with_reducible refine dwp_condA ?_ ?_ ?_); · rfl) <;> (refine Todo.of ?_))))
  refine dwp_loop (fun k : Nat => ⟨[(0, .sl (l.map cSlt)), (3, .int .i64 (sumC (l.take k))), (4, .int .i64 k)], []⟩) (fun k => k ≤ l.length) (fun k => l.length - k) 0 (by exact Nat.zero_le _) ?_ (Nat.zero_le _) fun k hk => ?_
  · simp only [cut_some, List.map_cons, List.map_nil, get_cons, Nk.get_nil, Nat.reduceEqDiff, ↓reduceIte, DV.cut, DV.inB, List.take_nil, List.take_zero, reduceCtorEq]
    rfl
  by_cases d : k < l.length
  · have w : IntKind.i64.wrap ((k : Int) + 1) = ((k + 1 : Nat) : Int) := by rw [wrap_i64_id (by omega)]; omega
    have e1 := slt_getD d
    have b1 := sumC_b l k hk
    have s1 := sumC_take d
    generalize l.getD k default = x at *
    have e2 := s_CellsTy_at x.ty
    have b2 := cellsTy_b x.ty
    have w2 : IntKind.i64.wrap (sumC (l.take k) + cellsTy x.ty) = sumC (l.take (k + 1)) := by rw [wrap_i64_id (by omega), s1]
    simp only [cTy, cSlt] at e1 e2
    (have hcondQ := Bool.and_self; refine Todo.of ?_; repeat' (first | ((with_reducible refine Todo.to ?_); try simp only [↓rP, rT, rU, dvalX, dval, dBin, dInt, dLoad, cellsAt, DV.immB, dCallP, viewVs, viewV, view1, viewL, noMemV, noMem, Nat.reduceEqDiff, Nat.reduceAdd, ↓reduceIte, reduceCtorEq, Nat.reduceLeDiff, e1, e2, d, w, w2]) | ((with_reducible refine And.intro ?_ ?_); · first | trivial | omega | (simp; done) | (simp; omega)) | (((with_reducible refine dwp_condA ?_ ?_ ?_); · rfl) <;> (refine Todo.of ?_))))
    refine ⟨k + 1, ?_, by omega, by omega⟩
    simp only [cut_some, List.map_cons, List.map_nil, get_cons, Nk.get_nil, Nat.reduceEqDiff, ↓reduceIte, DV.cut, DV.inB, List.take_nil, reduceCtorEq]
  · have e : l.take k = l := List.take_of_length_le (by omega)
    (have hcondQ := Bool.and_self; refine Todo.of ?_; repeat' (first | ((with_reducible refine Todo.to ?_); try simp only [↓rP, rT, rU, dvalX, dval, dBin, dInt, retV, DR.val, fzT, fzV, fz1, DV.immB, Nat.reduceEqDiff, ↓reduceIte, reduceCtorEq, d, e]) | ((with_reducible refine And.intro ?_ ?_); · first | trivial | omega | (simp; done) | (simp; omega)) | (((with_reducible refine dwp_condA ?_ ?_ ?_); · rfl) <;> (refine Todo.of ?_))))
end Go.Proofs.YtjgefhgkinocmaaGreat

/- A type's kind; what is kept at first. -/
set_option linter.all false
set_option maxRecDepth 20000
namespace Go.Proofs.YtjgefhgkinocmaaGreat
open Go.Nk

def kindOf (t : Ty) : Int := if t.k = 1 ∨ t.k = 2 then t.k else if t.k = 3 ∧ 0 ≤ t.e ∧ t.e ≤ 1000 then 3 + t.e else 0
noncomputable def s_Kind6 : List DV → Prop × DV := spec1 eTy fun t => (True, .int .i64 (kindOf t))
theorem s_Kind6_at (t : Ty) : s_Kind6 [.agg (cTy t)] = (True, .int .i64 (kindOf t)) := spec1_at inj_Ty _ _
theorem ok_refKind6 : OkP Tryz.prog 91 s_Kind6 := by
  refine OkP.mk1 (ps := []) (hs := []) trivial trivial m_noriaref06_Kind fun t _ => ?_
  by_cases q : 0 ≤ t.e ∧ t.e ≤ 1000
  · have w : IntKind.i64.wrap (3 + t.e) = 3 + t.e := wrap_i64_id (by omega)
    (have hcondQ := Bool.and_self; refine Todo.of ?_; repeat' (first | ((with_reducible refine Todo.to ?_); try simp only [↓rP, rT, rU, dvalX, dval, dBin, dInt, dLoad, cellsAt, retV, DR.val, fzT, fzV, fz1, DV.immB, cellsOf, Nat.reduceEqDiff, Nat.reduceAdd, ↓reduceIte, Nat.reduceLT, d_noriaref06_Kind, w, hcondQ]) | ((with_reducible refine And.intro ?_ ?_); · first | trivial | omega | (simp; done) | (simp; omega)) | ((first | ((with_reducible refine dwp_condI (t := ?_) ?_ (fun hcQ => ?_) (fun hcQ => ?_)); rotate_left; · rfl) | ((with_reducible refine dops_guardI (t := ?_) ?_ (fun hcQ => ?_) (fun hcQ => ?_)); rotate_left; · rfl)) <;> (have hn := hcQ; have hcondQ := hcQ) <;> (try simp only [decide_eq_true_eq, decide_eq_false_iff_not, beq_iff_eq, ne_eq, beq_eq_false_iff_ne] at hn) <;> (try (exfalso; omega)) <;> (refine Todo.of ?_)) | (((with_reducible refine dwp_condA ?_ ?_ ?_); · rfl) <;> (refine Todo.of ?_))))
    all_goals grind [kindOf]
  · (have hcondQ := Bool.and_self; refine Todo.of ?_; repeat' (first | ((with_reducible refine Todo.to ?_); try simp only [↓rP, rT, rU, dvalX, dval, dBin, dInt, dLoad, cellsAt, retV, DR.val, fzT, fzV, fz1, DV.immB, cellsOf, Nat.reduceEqDiff, Nat.reduceAdd, ↓reduceIte, Nat.reduceLT, d_noriaref06_Kind, hcondQ]) | ((with_reducible refine And.intro ?_ ?_); · first | trivial | omega | (simp; done) | (simp; omega)) | ((first | ((with_reducible refine dwp_condI (t := ?_) ?_ (fun hcQ => ?_) (fun hcQ => ?_)); rotate_left; · rfl) | ((with_reducible refine dops_guardI (t := ?_) ?_ (fun hcQ => ?_) (fun hcQ => ?_)); rotate_left; · rfl)) <;> (have hn := hcQ; have hcondQ := hcQ) <;> (try simp only [decide_eq_true_eq, decide_eq_false_iff_not, beq_iff_eq, ne_eq, beq_eq_false_iff_ne] at hn) <;> (try (exfalso; omega)) <;> (refine Todo.of ?_)) | (((with_reducible refine dwp_condA ?_ ?_ ?_); · rfl) <;> (refine Todo.of ?_))))
    all_goals grind [kindOf]

end Go.Proofs.YtjgefhgkinocmaaGreat

/- Which enums are small. -/
set_option linter.all false
set_option maxRecDepth 20000
namespace Go.Proofs.YtjgefhgkinocmaaGreat
open Go.Nk

def smallC (l : List (List UInt8)) : Bool := l.all fun s => decide (s.length ≤ 100)
def smallE (x : En) : Bool := decide (x.ct.length ≤ 12) && decide (x.name.length ≤ 100) && smallC x.ct
def smallF (l : List En) : Bool := decide (l.length ≤ 8) && l.all smallE
noncomputable def s_Small : List DV → Prop × DV := spec1 eEns fun l => (True, .bool (smallF l))
theorem s_Small_at (l : List En) : s_Small [.sl (l.map cEn)] = (True, .bool (smallF l)) := spec1_at inj_Ens _ _
theorem ok_Small : OkP Tryz.prog 31 s_Small := by
  refine OkP.mk1 (ps := []) (hs := []) trivial trivial m_noriaref05_Small fun l _ => ?_
  by_cases q : l.length ≤ 8
  rotate_left
  · have n1 : (8 : Int) < (l.length : Int) := by omega
    have hr : smallF l = false := by simp [smallF]; intro h; omega
    (have hcondQ := Bool.and_self; refine Todo.of ?_; repeat' (first | ((with_reducible refine Todo.to ?_); try simp only [↓rP, rT, rU, dvalX, dval, dBin, dInt, retV, DR.val, fzT, fzV, fz1, DV.immB, ↓reduceIte, reduceCtorEq, d_noriaref05_Small, n1, hr]) | ((with_reducible refine And.intro ?_ ?_); · first | trivial | omega | (simp; done) | (simp; omega)) | (((with_reducible refine dwp_condA ?_ ?_ ?_); · rfl) <;> (refine Todo.of ?_))))
  have n1 : ¬ (8 : Int) < (l.length : Int) := by omega
  have hr : smallF l = l.all smallE := by simp [smallF, q]
  (have hcondQ := Bool.and_self; refine Todo.of ?_; repeat' (first | ((with_reducible refine Todo.to ?_); try simp only [↓rP, rT, rU, dvalX, dval, dBin, dInt, ↓reduceIte, reduceCtorEq, d_noriaref05_Small, n1]) | ((with_reducible refine And.intro ?_ ?_); · first | trivial | omega | (simp; done) | (simp; omega)) | (((with_reducible refine dwp_condA ?_ ?_ ?_); · rfl) <;> (refine Todo.of ?_))))
  refine dwp_loop (fun k : Nat => ⟨[(0, .sl (l.map cEn)), (3, .int .i64 k)], []⟩) (fun k => k ≤ l.length ∧ ∀ x ∈ l.take k, smallE x = true) (fun k => l.length - k) 0 (by exact Nat.zero_le _) ?_ ⟨Nat.zero_le _, by simp⟩ fun k hk => ?_
  · simp only [cut_some, List.map_cons, List.map_nil, get_cons, Nk.get_nil, ↓reduceIte, DV.cut, DV.inB, List.take_nil, reduceCtorEq]
    rfl
  obtain ⟨hk, ht⟩ := hk
  by_cases d : k < l.length
  rotate_left
  · have e := all_take d ht
    rw [e] at hr
    (have hcondQ := Bool.and_self; refine Todo.of ?_; repeat' (first | ((with_reducible refine Todo.to ?_); try simp only [↓rP, rT, rU, dvalX, dval, dBin, dInt, retV, DR.val, fzT, fzV, fz1, DV.immB, Nat.reduceEqDiff, ↓reduceIte, reduceCtorEq, d, hr]) | ((with_reducible refine And.intro ?_ ?_); · first | trivial | omega | (simp; done) | (simp; omega)) | (((with_reducible refine dwp_condA ?_ ?_ ?_); · rfl) <;> (refine Todo.of ?_))))
  have w : IntKind.i64.wrap ((k : Int) + 1) = ((k + 1 : Nat) : Int) := by rw [wrap_i64_id (by omega)]; omega
  have e1 := en_getD d
  have n2 := @all_not _ smallE l default k d
  have n3 := @take_yes _ smallE l default k d ht
  generalize l.getD k default = x at *
  simp only [cEn] at e1
  by_cases c : x.ct.length ≤ 12 ∧ x.name.length ≤ 100
  rotate_left
  · have := n2 (by simp only [smallE]; grind)
    rw [this] at hr
    (have hcondQ := Bool.and_self; refine Todo.of ?_; repeat' (first | ((with_reducible refine Todo.to ?_); try simp only [↓rP, rT, rU, dvalX, dval, dBin, dInt, dLoad, cellsAt, retV, DR.val, fzT, fzV, fz1, DV.immB, Nat.reduceEqDiff, Nat.reduceAdd, ↓reduceIte, reduceCtorEq, Nat.reduceLT, sls_len, e1, d, hr, hcondQ]) | ((with_reducible refine And.intro ?_ ?_); · first | trivial | omega | (simp; done) | (simp; omega)) | ((first | ((with_reducible refine dwp_condI (t := ?_) ?_ (fun hcQ => ?_) (fun hcQ => ?_)); rotate_left; · rfl) | ((with_reducible refine dops_guardI (t := ?_) ?_ (fun hcQ => ?_) (fun hcQ => ?_)); rotate_left; · rfl)) <;> (have hn := hcQ; have hcondQ := hcQ) <;> (try simp only [decide_eq_true_eq, decide_eq_false_iff_not] at hn) <;> (try (exfalso; omega)) <;> (refine Todo.of ?_)) | (((with_reducible refine dwp_condA ?_ ?_ ?_); · rfl) <;> (refine Todo.of ?_))))
    all_goals (exfalso; omega)
  obtain ⟨c1, c2⟩ := c
  have m1 : ¬ (12 : Int) < (x.ct.length : Int) := by omega
  have m2 : ¬ (100 : Int) < (x.name.length : Int) := by omega
  have hx : smallE x = smallC x.ct := by simp [smallE, c1, c2]
  (have hcondQ := Bool.and_self; refine Todo.of ?_; repeat' (first | ((with_reducible refine Todo.to ?_); try simp only [↓rP, rT, rU, dvalX, dval, dBin, dInt, dLoad, cellsAt, Nat.reduceEqDiff, Nat.reduceAdd, ↓reduceIte, reduceCtorEq, Nat.reduceLT, sls_len, e1, d, m1, m2]) | ((with_reducible refine And.intro ?_ ?_); · first | trivial | omega | (simp; done) | (simp; omega)) | (((with_reducible refine dwp_condA ?_ ?_ ?_); · rfl) <;> (refine Todo.of ?_))))
  refine dwp_loop (fun j : Nat => ⟨[(0, .sl (l.map cEn)), (3, .int .i64 k), (4, .int .i64 j)], []⟩) (fun j => j ≤ x.ct.length ∧ ∀ s ∈ x.ct.take j, (fun s : List UInt8 => decide (s.length ≤ 100)) s = true) (fun j => x.ct.length - j) 0 (by exact Nat.zero_le _) ?_ ⟨Nat.zero_le _, by simp⟩ fun j hj => ?_
  · simp only [cut_some, List.map_cons, List.map_nil, get_cons, Nk.get_nil, Nat.reduceEqDiff, ↓reduceIte, DV.cut, DV.inB, List.take_nil, reduceCtorEq]
    rfl
  obtain ⟨hj, hs⟩ := hj
  by_cases dj : j < x.ct.length
  rotate_left
  · have e := all_take dj hs
    have := n3 (by rw [hx]; exact e)
    (have hcondQ := Bool.and_self; refine Todo.of ?_; repeat' (first | ((with_reducible refine Todo.to ?_); try simp only [↓rP, rT, rU, dvalX, dval, dBin, dInt, dLoad, cellsAt, Nat.reduceEqDiff, Nat.reduceAdd, ↓reduceIte, reduceCtorEq, sls_len, e1, d, dj, w]) | ((with_reducible refine And.intro ?_ ?_); · first | trivial | omega | (simp; done) | (simp; omega)) | (((with_reducible refine dwp_condA ?_ ?_ ?_); · rfl) <;> (refine Todo.of ?_))))
    refine ⟨k + 1, ?_, ⟨by omega, this⟩, by omega⟩
    simp only [cut_some, List.map_cons, List.map_nil, get_cons, Nk.get_nil, ↓reduceIte, DV.cut, DV.inB, List.take_nil, reduceCtorEq]
  have wj : IntKind.i64.wrap ((j : Int) + 1) = ((j + 1 : Nat) : Int) := by rw [wrap_i64_id (by omega)]; omega
  have e2 := sls_getD dj
  have n4 := @all_not _ (fun s : List UInt8 => decide (s.length ≤ 100)) x.ct [] j dj
  have n5 := @take_yes _ (fun s : List UInt8 => decide (s.length ≤ 100)) x.ct [] j dj hs
  generalize x.ct.getD j [] = y at *
  (have hcondQ := Bool.and_self; refine Todo.of ?_; repeat' (first | ((with_reducible refine Todo.to ?_); try simp only [↓rP, rT, rU, dvalX, dval, dBin, dInt, dLoad, cellsAt, retV, DR.val, fzT, fzV, fz1, DV.immB, Nat.reduceEqDiff, Nat.reduceAdd, ↓reduceIte, reduceCtorEq, sls_len, e1, e2, d, dj, wj, hcondQ]) | ((with_reducible refine And.intro ?_ ?_); · first | trivial | omega | (simp; done) | (simp; omega)) | ((first | ((with_reducible refine dwp_condI (t := ?_) ?_ (fun hcQ => ?_) (fun hcQ => ?_)); rotate_left; · rfl) | ((with_reducible refine dops_guardI (t := ?_) ?_ (fun hcQ => ?_) (fun hcQ => ?_)); rotate_left; · rfl)) <;> (have hn := hcQ; have hcondQ := hcQ) <;> (try simp only [decide_eq_true_eq, decide_eq_false_iff_not] at hn) <;> (try (exfalso; omega)) <;> (refine Todo.of ?_)) | (((with_reducible refine dwp_condA ?_ ?_ ?_); · rfl) <;> (refine Todo.of ?_))))
  all_goals first
    | (have := n2 (by rw [hx]; exact n4 (by simp only [decide_eq_false_iff_not]; omega))
       simp only [hr, this]; done)
    | (refine ⟨j + 1, ?_, ⟨by omega, fun s hs' => of_decide_eq_true (n5 (by simp only [decide_eq_true_eq]; omega) s hs')⟩, by omega⟩
       simp only [cut_some, List.map_cons, List.map_nil, get_cons, Nk.get_nil, Nat.reduceEqDiff, ↓reduceIte, DV.cut, DV.inB, List.take_nil, reduceCtorEq])
end Go.Proofs.YtjgefhgkinocmaaGreat

/- Which images are small. -/
set_option linter.all false
set_option maxRecDepth 20000
namespace Go.Proofs.YtjgefhgkinocmaaGreat
open Go.Nk

def fewP (p : Prt) : Bool := decide (p.name.length ≤ 200)
def fewS (s : Slt) : Bool := decide (s.path.length ≤ 300) && decide (s.ini.length ≤ 300)
def fewF (x : Img) : Bool := smallF x.en && decide (x.ins.length + x.outs.length ≤ 50) && decide (x.slots.length ≤ 150) && decide (x.loc.length ≤ 1100) && decide (x.code.length ≤ 800) && (x.ins ++ x.outs).all fewP && x.slots.all fewS
def okLen (x : Img) : Prop := x.ins.length ≤ 1000000000000000000 ∧ x.outs.length ≤ 1000000000000000000
noncomputable def s_Few : List DV → Prop × DV := spec1 eImg fun x => (okLen x, .bool (fewF x))
theorem s_Few_at (x : Img) : s_Few [.agg (cImg x)] = (okLen x, .bool (fewF x)) := spec1_at inj_Img _ x
theorem prt_rows (l : List Prt) : ∀ e ∈ l.map cPrt, e.length = 4 := by simp
theorem ok_noriaref33_Few : OkP Tryz.prog 13 s_Few := by
  refine OkP.mk1 (ps := [(31, s_Small)]) (hs := []) ⟨ok_Small, trivial⟩ trivial m_noriaref33_Few fun x h => ?_
  try dsimp only at h
  obtain ⟨h1, h2⟩ := h
  by_cases q : smallF x.en = true ∧ x.ins.length + x.outs.length ≤ 50 ∧ x.slots.length ≤ 150 ∧ x.loc.length ≤ 1100 ∧ x.code.length ≤ 800
  rotate_left
  · have hr : fewF x = false := by
      rw [Bool.eq_false_iff]
      intro hh
      simp only [fewF, Bool.and_eq_true, decide_eq_true_eq] at hh
      exact q ⟨hh.1.1.1.1.1.1, hh.1.1.1.1.1.2, hh.1.1.1.1.2, hh.1.1.1.2, hh.1.1.2⟩
    (have hcondQ := Bool.and_self; refine Todo.of ?_); (repeat' (first | ((with_reducible refine Todo.to ?_); (repeat (first | (simp only [↓rP, rT, rU, eA, dvalX, DOp.kind, dval, dBin, dInt, dUn, dLoad, cellsAt, retV, DR.val, fzT, fzV, fz1, DV.immB, dCallP, viewVs, viewV, view1, noMemV, noMem, elemsOf, dAppend, fzLL, cellsOf, lenMax, Nat.reduceEqDiff, Nat.reduceAdd, ↓reduceIte, reduceCtorEq, Nat.reduceLT, forall_const, d_noriaref33_Few, s_Small_at, eImg, ils_len, hr , hcondQ]) | ((simp (disch := omega) only [i64_id]))))) | ((with_reducible refine And.intro ?_ ?_); · (simp; omega)) | (((first | ((with_reducible refine dwp_condI (t := ?_) ?_ (fun hcQ => ?_) (fun hcQ => ?_)); rotate_left; · (rfl)) | ((with_reducible refine dops_guardI (t := ?_) ?_ (fun hcQ => ?_) (fun hcQ => ?_)); rotate_left; · (rfl))) <;> (have hn := hcQ; have hcondQ := hcQ) <;> (try simp only [decide_eq_true_eq, decide_eq_false_iff_not, Bool.not_eq_true', Bool.not_eq_false'] at hn) <;> (refine Todo.of ?_))) | fail))
    all_goals (exfalso; apply q; refine ⟨by grind, by omega, by omega, by omega, by omega⟩)
  obtain ⟨q0, q1, q2, q3, q4⟩ := q
  have hr : fewF x = ((x.ins ++ x.outs).all fewP && x.slots.all fewS) := by simp [fewF, q0, q1, q2, q3, q4]
  have r1 := prt_rows x.ins
  have r2 := prt_rows x.outs
  (have hcondQ := Bool.and_self; refine Todo.of ?_); (repeat' (first | ((with_reducible refine Todo.to ?_); (repeat (first | (simp only [↓rP, rT, rU, eA, dvalX, DOp.kind, dval, dBin, dInt, dUn, dLoad, cellsAt, DV.immB, dCallP, viewVs, viewV, view1, noMemV, noMem, elemsOf, dAppend, fzLL, cellsOf, lenMax, Nat.reduceEqDiff, Nat.reduceAdd, ↓reduceIte, reduceCtorEq, Nat.reduceLT, forall_const, d_noriaref33_Few, s_Small_at, eImg, ils_len, q0, hcondQ]) | ((simp (disch := omega) only [i64_id]))))) | ((with_reducible refine And.intro ?_ ?_); · (simp; omega)) | (((first | ((with_reducible refine dwp_condI (t := ?_) ?_ (fun hcQ => ?_) (fun hcQ => ?_)); rotate_left; · (rfl)) | ((with_reducible refine dops_guardI (t := ?_) ?_ (fun hcQ => ?_) (fun hcQ => ?_)); rotate_left; · (rfl))) <;> (have hn := hcQ; have hcondQ := hcQ) <;> (try simp only [decide_eq_true_eq, decide_eq_false_iff_not] at hn) <;> (try (exfalso; omega)) <;> (refine Todo.of ?_))) | fail))
  refine dwp_each (x.ins ++ x.outs) (fun k (_ : Unit) => ⟨[(1, .ref (cImg x)), (3, .own 0 (x.ins.length + x.outs.length) 0 (x.ins.length + x.outs.length)), (4, .int .i64 k)], [⟨.imm, 4, (x.ins ++ x.outs).map cPrt⟩]⟩) (fun k r _ => k ≤ 100 ∧ r.all fewP = (x.ins ++ x.outs).all fewP) () (Nat.zero_le _) (by simp only [cut_some, List.map_cons, List.map_nil, get_cons, Nk.get_nil, Nat.reduceEqDiff, ↓reduceIte, DV.cut, DV.inB, DObj.cut, List.take_nil, reduceCtorEq, Nat.zero_lt_one, decide_true, List.take_succ_cons, List.map_append] <;> rfl) ⟨by omega, rfl⟩ (fun k y r _ d hy hd hr2 => ?_) (fun k _ e hr2 => ?_)
  · obtain ⟨hk, hr2⟩ := hr2
    simp only [List.all_cons] at hr2
    rw [List.length_append] at d
    (have hcondQ := Bool.and_self; refine Todo.of ?_); (repeat' (first | ((with_reducible refine Todo.to ?_); (repeat (first | (simp only [↓rP, rT, rU, dvalX, dval, dBin, dInt, dLoad, cellsAt, retV, DR.val, fzT, fzV, fz1, DV.immB, alive, Nat.reduceEqDiff, Nat.reduceAdd, ↓reduceIte, reduceCtorEq, Nat.reduceLeDiff, Nat.reduceLT, d, map_getD cPrt hy, hcondQ]) | ((simp (disch := omega) only [i64_id]))))) | ((with_reducible refine And.intro ?_ ?_); · omega) | (((((with_reducible refine dwp_condI (t := ?_) ?_ (fun hcQ => ?_) (fun hcQ => ?_)); rotate_left; · (rfl))) <;> (have hn := hcQ; have hcondQ := hcQ) <;> (try simp only [decide_eq_true_eq, decide_eq_false_iff_not] at hn) <;> (refine Todo.of ?_))) | fail))
    all_goals first
      | exact ⟨(), by simp only [cut_some, List.map_cons, List.map_nil, get_cons, Nk.get_nil, Nat.reduceEqDiff, ↓reduceIte, DV.cut, DV.inB, DObj.cut, List.take_nil, reduceCtorEq, Nat.zero_lt_one, decide_true, List.take_succ_cons, Int.natCast_add, Int.natCast_one, List.map_append] <;> rfl, by omega, by grind [fewP]⟩
      | grind [fewP]
  obtain ⟨hk, hr2⟩ := hr2
  simp only [List.all_nil] at hr2
  rw [← hr2, Bool.true_and] at hr
  rw [List.length_append] at e
  (have hcondQ := Bool.and_self; refine Todo.of ?_); (repeat' (first | ((with_reducible refine Todo.to ?_); (repeat (simp only [↓rP, rT, rU, dvalX, dval, dBin, dInt, alive, Nat.reduceEqDiff, ↓reduceIte, reduceCtorEq, e ])))))
  refine dwp_each x.slots (fun k (_ : Unit) => ⟨[(1, .ref (cImg x)), (5, .int .i64 k)], [⟨.imm, 4, (x.ins ++ x.outs).map cPrt⟩]⟩) (fun k r _ => r.all fewS = x.slots.all fewS) () (Nat.zero_le _) (by simp only [cut_some, List.map_cons, List.map_nil, get_cons, Nk.get_nil, Nat.reduceEqDiff, ↓reduceIte, DV.cut, DV.inB, DObj.cut, List.take_nil, reduceCtorEq, List.take_succ_cons, Int.natCast_add, List.map_append] <;> rfl) rfl (fun k y r _ d hy hd hr3 => ?_) (fun k _ e hr3 => ?_)
  · simp only [List.all_cons] at hr3
    (have hcondQ := Bool.and_self; refine Todo.of ?_); (repeat' (first | ((with_reducible refine Todo.to ?_); (repeat (first | (simp only [↓rP, rT, rU, dvalX, dval, dBin, dInt, dLoad, cellsAt, retV, DR.val, fzT, fzV, fz1, DV.immB, Nat.reduceEqDiff, Nat.reduceAdd, ↓reduceIte, Nat.reduceLT, ils_len, d, map_getD cSlt hy , hcondQ]) | ((simp (disch := omega) only [i64_id]))))) | ((with_reducible refine And.intro ?_ ?_); · omega) | (((first | ((with_reducible refine dwp_condI (t := ?_) ?_ (fun hcQ => ?_) (fun hcQ => ?_)); rotate_left; · (rfl)) | ((with_reducible refine dops_guardI (t := ?_) ?_ (fun hcQ => ?_) (fun hcQ => ?_)); rotate_left; · (rfl))) <;> (have hn := hcQ; have hcondQ := hcQ) <;> (try simp only [decide_eq_true_eq, decide_eq_false_iff_not] at hn) <;> (refine Todo.of ?_))) | fail))
    all_goals first
      | exact ⟨(), by simp only [cut_some, List.map_cons, List.map_nil, get_cons, Nk.get_nil, Nat.reduceEqDiff, ↓reduceIte, DV.cut, DV.inB, DObj.cut, List.take_nil, reduceCtorEq, List.take_succ_cons, Int.natCast_add, Int.natCast_one, List.map_append] <;> rfl, by grind [fewS]⟩
      | grind [fewS]
  · simp only [List.all_nil] at hr3
    (have hcondQ := Bool.and_self; refine Todo.of ?_); (repeat' (first | ((with_reducible refine Todo.to ?_); (repeat (simp only [↓rP, rT, rU, dvalX, dval, dBin, dInt, dLoad, cellsAt, retV, DR.val, fzT, fzV, fz1, DV.immB, Nat.reduceEqDiff, Nat.reduceAdd, ↓reduceIte, Nat.reduceLT, e ])))))
    grind
end Go.Proofs.YtjgefhgkinocmaaGreat

/- Numbers and rows of numbers that are the same; the kinds of a type's cells. -/
set_option linter.all false
set_option maxRecDepth 20000
namespace Go.Proofs.YtjgefhgkinocmaaGreat
open Go.Nk


noncomputable def s_Vals : List DV → Prop × DV := specE eIls (fun l => l.length ≤ 1000000000)
theorem s_Vals_same (l : List Int) (h : l.length ≤ 1000000000) : s_Vals [.sl (ils l), .sl (ils l)] = (True, .bool true) := specE_at eIls h
theorem ok_noriaref01_Vals : OkP Tryz.prog 12 s_Vals := by
  refine OkP.mkE (ps := []) (hs := []) trivial trivial m_noriaref01_Vals fun l h => ?_
  
  (have hcondQ := Bool.and_self; refine Todo.of ?_); (repeat' (first | ((with_reducible refine Todo.to ?_); (repeat (simp only [↓rP, rT, dvalX, dval, dBin, dInt, Nat.reduceEqDiff, ↓reduceIte, reduceCtorEq, d_noriaref01_Vals, eIls, ils_len ])))))
  refine dwp_each l (fun k (_ : Unit) => ⟨[(0, .sl (ils l)), (1, .sl (ils l)), (5, .int .i64 k)], []⟩) (fun _ _ _ => True) () (Nat.zero_le _) (by simp only [cut_some, List.map_cons, List.map_nil, get_cons, Nk.get_nil, Nat.reduceEqDiff, ↓reduceIte, Nat.succ_ne_self, DV.cut, DV.inB, List.take_nil, reduceCtorEq] <;> rfl) trivial (fun k x r _ d hx _ _ => ?_) (fun k _ e _ => ?_)
  · (have hcondQ := Bool.and_self; refine Todo.of ?_); (repeat' (first | ((with_reducible refine Todo.to ?_); (repeat (first | (simp only [↓rP, rT, rU, dvalX, dval, dBin, dInt, dLoad, cellsAt, Nat.reduceEqDiff, ↓reduceIte, reduceCtorEq, ils_len, d, ils_at hx ]) | ((simp (disch := omega) only [i64_id]))))) | ((with_reducible refine And.intro ?_ ?_); · omega) | fail))
    exact ⟨(), by simp only [cut_some, List.map_cons, List.map_nil, get_cons, Nk.get_nil, Nat.reduceEqDiff, ↓reduceIte, Nat.succ_ne_self, DV.cut, DV.inB, List.take_nil, reduceCtorEq, Int.natCast_add, Int.natCast_one] <;> rfl⟩
  · (have hcondQ := Bool.and_self; refine Todo.of ?_); (repeat' (first | ((with_reducible refine Todo.to ?_); (repeat (simp only [↓rP, rT, rU, dvalX, dval, dBin, dInt, retV, DR.val, fzT, fzV, fz1, DV.immB, Nat.reduceEqDiff, ↓reduceIte, reduceCtorEq, ils_len, e ])))))

end Go.Proofs.YtjgefhgkinocmaaGreat

/- The kinds of a type's cells, laid behind others. -/
set_option linter.all false
set_option maxRecDepth 20000
namespace Go.Proofs.YtjgefhgkinocmaaGreat
open Go.Nk

def kindsOf (t : Ty) : List Int := List.replicate (cellsTy t).toNat (kindOf t)
theorem kindsOf_len (t : Ty) : (kindsOf t).length = (cellsTy t).toNat := by simp [kindsOf]
theorem kindsOf_mem {t : Ty} {x : Int} (h : x ∈ kindsOf t) : x = kindOf t := List.eq_of_mem_replicate h

structure rK where
  t : Ty
  m : Nat
  ks : List Int
def relK (x : rK) (a : List DV) (hp : List DObj) : Prop := a = [.own x.m x.ks.length 0 x.ks.length, .agg (cTy x.t)] ∧ hp[x.m]? = some ⟨.imm, 1, ils x.ks⟩
theorem relK_u : ∀ x y a hp, relK x a hp → relK y a hp → x = y := by
  rintro ⟨t, m, ks⟩ ⟨t', m', ks'⟩ a hp ⟨h1, h2⟩ ⟨h3, h4⟩
  subst h1
  simp only [List.cons.injEq, DV.own.injEq, DV.agg.injEq, and_true] at h3
  obtain ⟨⟨rfl, h5, _⟩, h6⟩ := h3
  simp only at h2 h4
  rw [h2] at h4
  injection h4 with h4
  injection h4 with _ _ h4
  have e1 := ils_inj h4
  have e2 : t = t' := cTy_inj _ _ (by simpa using h6)
  subst e1 e2; rfl
noncomputable def s_kinds : List DV → List DObj → Res := specG relK (fun x => (x.ks.length ≤ 1000000000, .own x.m (x.ks ++ kindsOf x.t).length 0 (x.ks ++ kindsOf x.t).length)) fun x hp => one hp x.m ⟨.imm, 1, ils (x.ks ++ kindsOf x.t)⟩
theorem s_kinds_run (t : Ty) (m : Nat) (ks : List Int) (hp : List DObj) (h : hp[m]? = some ⟨.imm, 1, ils ks⟩) : s_kinds [.own m ks.length 0 ks.length, .agg (cTy t)] hp =
    ⟨ks.length ≤ 1000000000, .own m (ks ++ kindsOf t).length 0 (ks ++ kindsOf t).length, one hp m ⟨.imm, 1, ils (ks ++ kindsOf t)⟩⟩ := specG_at relK_u (x := ⟨t, m, ks⟩) ⟨rfl, h⟩
theorem ok_noriaref32_kinds : OkH Tryz.prog 65 s_kinds := by
  refine OkH.mkG (ps := [(30, s_CellsTy), (91, s_Kind6)]) (hs := []) ⟨ok_refCellsTy, ok_refKind6, trivial⟩ trivial m_noriaref32_kinds (by rintro x a hp ⟨rfl, _⟩; rfl) ?_
  rintro ⟨t, m, ks⟩ a hp ⟨rfl, h⟩ hl
  simp only at h hl ⊢
  have hm := lt_of_some h
  have hh := one_is h
  have hc := kindsOf_len t
  have hb := cellsTy_b t
  have e0 : (⟨frameFrom 0 [.own m ks.length 0 ks.length, .agg (cTy t)], hp⟩ : DS) = (⟨frameFrom 0 [.own m ks.length 0 ks.length, .agg (cTy t)], one hp m ⟨.imm, 1, ils ks⟩ ++ []⟩ : DS) := by rw [hh, List.append_nil]
  rw [e0]
  
  (have hcondQ := Bool.and_self; refine Todo.of ?_); (repeat' (first | ((with_reducible refine Todo.to ?_); (repeat (simp only [↓rP, rT, rU, dvalX, dval, frameFrom, DV.one, cellsOf, Nat.reduceAdd, ↓reduceIte, forall_const, d_noriaref32_kinds, List.append_assoc, Nat.add_zero, one_len ])))))
  refine dwp_each (kindsOf t) (fun k (o : List Int) => ⟨[(0, .own m o.length 0 o.length), (3, .ptr hp.length 1 0 0), (5, .int .i64 k)], one hp m ⟨.imm, 1, ils o⟩ ++ [⟨.loc, 3, [cTy t]⟩]⟩) (fun k r o => o ++ r = ks ++ kindsOf t ∧ o.length ≤ 1000000000 + k) ks trivial (by simp only [cut_none, List.map_cons, List.map_nil, get_cons, Nk.get_nil, Nat.reduceEqDiff, ↓reduceIte, reduceCtorEq] <;> rfl) ⟨rfl, by omega⟩ (fun k x r o d hx hd hr => ?_) (fun k o e hr => ?_)
  · obtain ⟨h1, h2⟩ := hr
    have hx2 := kindsOf_mem (mem_drop_of hd)
    subst hx2
    (have hcondQ := Bool.and_self; refine Todo.of ?_); (repeat' (first | ((with_reducible refine Todo.to ?_); (repeat (first | (simp only [↓rP, rT, rU, dvalX, dval, dBin, dInt, dLoad, cellsAt, fz1, DV.immB, dCallP, viewVs, viewV, view1, viewL, noMemV, noMem, elemsOf, dAppend, fzLL, fzL, bRow, bU, cellsOf, DV.isU, lenMax, Nat.reduceEqDiff, Nat.reduceAdd, ↓reduceIte, reduceCtorEq, Nat.reduceLeDiff, forall_const, s_CellsTy_at, s_Kind6_at, ils_len, one_get hm, one_set hm, one_b, ils_snoc , hcondQ]) | ((simp (disch := omega) only [i64_id]))))) | ((with_reducible refine And.intro ?_ ?_); · omega) | (((((with_reducible refine dwp_condI (t := ?_) ?_ (fun hcQ => ?_) (fun hcQ => ?_)); rotate_left; · (rfl))) <;> (have hn := hcQ; have hcondQ := hcQ) <;> (try simp only [decide_eq_true_eq, decide_eq_false_iff_not] at hn) <;> (try (exfalso; omega)) <;> (refine Todo.of ?_))) | fail))
    exact ⟨o ++ [kindOf t], by simp only [cut_none, List.map_cons, List.map_nil, get_cons, Nk.get_nil, Nat.reduceEqDiff, ↓reduceIte, reduceCtorEq, Int.natCast_add, Int.natCast_one, List.length_append, List.length_cons, List.length_nil, Nat.zero_add] <;> rfl, by simpa using h1, by simp; omega⟩
  · obtain ⟨h1, h2⟩ := hr
    rw [List.append_nil] at h1
    subst h1
    (have hcondQ := Bool.and_self; refine Todo.of ?_); (repeat' (first | ((with_reducible refine Todo.to ?_); (repeat (simp only [↓rP, rT, rU, dvalX, dval, dBin, dInt, dLoad, cellsAt, retV, DR.val, DV.immB, dCallP, viewVs, viewV, view1, viewL, noMemV, noMem, Nat.reduceEqDiff, Nat.reduceAdd, ↓reduceIte, reduceCtorEq, Nat.reduceLeDiff, s_CellsTy_at, e, one_len, one_b, hcondQ]))) | (((((with_reducible refine dwp_condI (t := ?_) ?_ (fun hcQ => ?_) (fun hcQ => ?_)); rotate_left; · (rfl))) <;> (have hn := hcQ; have hcondQ := hcQ) <;> (try simp only [decide_eq_true_eq, decide_eq_false_iff_not] at hn) <;> (try (exfalso; omega)) <;> (refine Todo.of ?_))) | fail))
    exact ⟨by simp [DV.inB, hm], ⟨_, rfl⟩, one_end cut_imm⟩
end Go.Proofs.YtjgefhgkinocmaaGreat

/- The kinds of a type's cells, laid behind a Shape's. -/
set_option linter.all false
set_option maxRecDepth 20000
namespace Go.Proofs.YtjgefhgkinocmaaGreat
open Go.Nk

/-- A Shape that is made: where its list of numbers of constructors lies, its kinds, its places. -/
structure Shp where
  hc : Nat
  lc : Nat
  ks : List Int
  lo : Int
  hi : Int
structure rS where
  t : Ty
  n : Nat
  m : Nat
  v : Shp
end Go.Proofs.YtjgefhgkinocmaaGreat

/- Shapes: the kinds of an image's memory. -/
set_option linter.all false
set_option maxRecDepth 20000
namespace Go.Proofs.YtjgefhgkinocmaaGreat
open Go.Nk

def kindsA (l : List Ty) : List Int := (l.map kindsOf).flatten
theorem kindsA_cons (t : Ty) (l : List Ty) : kindsA (t :: l) = kindsOf t ++ kindsA l := by simp [kindsA]
theorem kindsA_nil : kindsA [] = [] := rfl
theorem kindsOf_b (t : Ty) : (kindsOf t).length ≤ 8 := by
  rw [kindsOf_len]; have := cellsTy_b t; omega
structure ShpF where
  ctors : List Int
  kinds : List Int
  lo : Int
  hi : Int
@[reducible] def cShp (v : ShpF) : List DV := [.sl (ils v.ctors), .sl (ils v.kinds), .int .i64 v.lo, .int .i64 v.hi]
def ctorsF (x : Img) : List Int := x.en.map fun e => (e.ct.length : Int)
def kS (x : Img) : List Int := kindsA (x.slots.map (·.ty))
def kI (x : Img) : List Int := kS x ++ kindsA (x.ins.map (·.ty))
def kO (x : Img) : List Int := kI x ++ kindsA (x.outs.map (·.ty))
def shapeF (x : Img) : ShpF := ⟨ctorsF x, kO x ++ x.loc, (kS x).length, (kI x).length⟩
def okShape (x : Img) : Prop := x.en.length ≤ 1000000 ∧ x.slots.length ≤ 1000000 ∧ x.ins.length ≤ 1000000 ∧ x.outs.length ≤ 1000000 ∧ x.loc.length ≤ 1000000
noncomputable def s_Shape : List DV → Prop × DV := spec1 eImg fun x => (okShape x, .agg (cShp (shapeF x)))
theorem s_Shape_at (x : Img) : s_Shape [.agg (cImg x)] = (okShape x, .agg (cShp (shapeF x))) := spec1_at inj_Img _ x

theorem ok_noriaref32_Shape : OkP Tryz.prog 39 s_Shape := by
  refine OkP.mk1 (ps := []) (hs := [(65, s_kinds)]) trivial ⟨ok_noriaref32_kinds, trivial⟩ m_noriaref32_Shape fun x h => ?_
  obtain ⟨h1, h2, h3, h4, h5⟩ := h
  
  (have hcondQ := Bool.and_self; refine Todo.of ?_); (repeat' (first | ((with_reducible refine Todo.to ?_); (repeat (simp only [↓rP, rT, rU, eA, buildCells, dvalX, dval, dStore, DV.one, cellsOf, setFrom, Nat.reduceEqDiff, Nat.reduceAdd, ↓reduceIte, Nat.reduceLeDiff, forall_const, d_noriaref32_Shape, eImg ])))))
  refine dwp_gown_grow ?_
  (have hcondQ := Bool.and_self; refine Todo.of ?_); (repeat' (first | ((with_reducible refine Todo.to ?_); (repeat (simp only [rT, rU, Nat.reduceAdd, ↓reduceIte ])))))
  refine dwp_gown_grow ?_
  (have hcondQ := Bool.and_self; refine Todo.of ?_); (repeat' (first | ((with_reducible refine Todo.to ?_); (repeat (simp only [↓rP, rT, rU, dvalX, dval, Nat.reduceAdd, ↓reduceIte ])))))
  refine dwp_each x.en (fun k (o : List Int) => ⟨[(1, .ptr 0 1 0 0), (2, .ptr 1 1 0 0), (3, .ptr 2 1 0 0), (4, .int .i64 k)], [⟨.loc, 6, [cImg x]⟩, ⟨.loc, 4, [[.nil, .nil, .int .i64 0, .int .i64 0]]⟩, ⟨.loc, 4, [[.own 4 (o).length 0 (o).length, .own 3 (([] : List Int)).length 0 (([] : List Int)).length, .int .i64 0, .int .i64 0]]⟩, ⟨.imm, 1, ils (([] : List Int))⟩, ⟨.imm, 1, ils (o)⟩]⟩) (fun k r o => o ++ (r.map fun e => (e.ct.length : Int)) = ctorsF x ∧ o.length ≤ k) [] (Nat.zero_le _) (by simp only [cut_some, List.map_cons, List.map_nil, get_cons, Nk.get_nil, Nat.reduceEqDiff, ↓reduceIte, DV.cut, DV.inB, DObj.cut, List.take_nil, reduceCtorEq, decide_true, Nat.reduceLT, List.take_succ_cons, List.length_nil] <;> rfl) ⟨rfl, by simp⟩ (fun k y r o d hx hd hr => ?_) (fun k o e hr => ?_)
  · obtain ⟨h1, h2⟩ := hr
    simp only [List.map_cons] at h1
    (have hcondQ := Bool.and_self; refine Todo.of ?_); (repeat' (first | ((with_reducible refine Todo.to ?_); (repeat (first | (simp only [↓rP, rT, rU, dvalX, dval, dBin, dInt, dLoad, cellsAt, fz1, DV.immB, elemsOf, dAppend, dStore, DV.one, alive, fzLL, fzL, bRow, bU, cellsOf, setFrom, DV.isU, lenMax, Nat.reduceEqDiff, Nat.reduceAdd, ↓reduceIte, reduceCtorEq, Nat.reduceLeDiff, Nat.reduceLT, forall_const, sls_len, ils_len, d, map_getD cEn hx, ils_snoc , hcondQ]) | ((simp (disch := omega) only [i64_id]))))) | ((with_reducible refine And.intro ?_ ?_); · omega) | fail))
    exact ⟨o ++ [(y.ct.length : Int)], by simp only [cut_some, List.map_cons, List.map_nil, get_cons, Nk.get_nil, Nat.reduceEqDiff, ↓reduceIte, Nat.succ_ne_self, DV.cut, DV.inB, DObj.cut, List.take_nil, reduceCtorEq, decide_true, Nat.reduceLT, List.take_succ_cons, Int.natCast_add, Int.natCast_one, List.length_append, List.length_cons, List.length_nil, Nat.zero_add] <;> rfl, by simpa using h1, by simp; omega⟩
  obtain ⟨h1, h2⟩ := hr
  simp only [List.map_nil, List.append_nil] at h1
  subst h1
  (have hcondQ := Bool.and_self; refine Todo.of ?_); (repeat' (first | ((with_reducible refine Todo.to ?_); (repeat (simp only [↓rP, rT, rU, dvalX, dval, dBin, dInt, dLoad, cellsAt, alive, Nat.reduceEqDiff, Nat.reduceAdd, ↓reduceIte, reduceCtorEq, Nat.reduceLT, e ])))))
  refine dwp_each x.slots (fun k (o : List Int) => ⟨[(1, .ptr 0 1 0 0), (2, .ptr 1 1 0 0), (3, .ptr 2 1 0 0), (5, .int .i64 k)], [⟨.loc, 6, [cImg x]⟩, ⟨.loc, 4, [[.nil, .nil, .int .i64 0, .int .i64 0]]⟩, ⟨.loc, 4, [[.own 4 (ctorsF x).length 0 (ctorsF x).length, .own 3 (o).length 0 (o).length, .int .i64 0, .int .i64 0]]⟩, ⟨.imm, 1, ils (o)⟩, ⟨.imm, 1, ils (ctorsF x)⟩]⟩) (fun k r o => o ++ kindsA (r.map (·.ty)) = kS x ∧ o.length ≤ 0 + 8 * k) [] (Nat.zero_le _) (by simp only [cut_some, List.map_cons, List.map_nil, get_cons, Nk.get_nil, Nat.reduceEqDiff, ↓reduceIte, Nat.succ_ne_self, DV.cut, DV.inB, DObj.cut, List.take_nil, reduceCtorEq, decide_true, Nat.reduceLT, List.take_succ_cons, List.length_nil] <;> rfl) ⟨rfl, by simp⟩ (fun k y r o d hx hd hr => ?_) (fun k o e hr => ?_)
  · obtain ⟨h1, h2⟩ := hr
    have hb := kindsOf_b y.ty
    simp only [List.map_cons, kindsA_cons] at h1
    have e1 := s_kinds_run y.ty 3 o ([⟨.loc, 6, [cImg x]⟩, ⟨.loc, 4, [[.nil, .nil, .int .i64 0, .int .i64 0]]⟩, ⟨.loc, 4, [[.own 4 (ctorsF x).length 0 (ctorsF x).length, .own 3 (o).length 0 (o).length, .int .i64 0, .int .i64 0]]⟩, ⟨.imm, 1, ils (o)⟩, ⟨.imm, 1, ils (ctorsF x)⟩]) rfl
    simp only [cTy] at e1
    (have hcondQ := Bool.and_self; refine Todo.of ?_); (repeat' (first | ((with_reducible refine Todo.to ?_); (repeat (first | (simp only [↓rP, rT, rU, dvalX, dval, dBin, dInt, dLoad, cellsAt, dStore, DV.one, alive, cellsOf, setFrom, Nat.reduceEqDiff, Nat.reduceAdd, ↓reduceIte, reduceCtorEq, Nat.reduceLeDiff, Nat.reduceLT, forall_const, d, map_getD cSlt hx, e1, one ]) | ((simp (disch := omega) only [i64_id]))))) | ((with_reducible refine And.intro ?_ ?_); · omega) | fail))
    exact ⟨o ++ kindsOf y.ty, by simp only [cut_some, List.map_cons, List.map_nil, get_cons, Nk.get_nil, Nat.reduceEqDiff, ↓reduceIte, Nat.succ_ne_self, DV.cut, DV.inB, DObj.cut, List.take_nil, reduceCtorEq, decide_true, Nat.reduceLT, List.take_succ_cons, Int.natCast_add, Int.natCast_one, List.length_append] <;> rfl, by simpa using h1, by simp; omega⟩
  obtain ⟨h1, h2⟩ := hr
  simp only [List.map_nil, kindsA_nil, List.append_nil] at h1
  subst h1
  (have hcondQ := Bool.and_self; refine Todo.of ?_); (repeat' (first | ((with_reducible refine Todo.to ?_); (repeat (simp only [↓rP, rT, rU, dvalX, dval, dBin, dInt, dLoad, cellsAt, dStore, DV.one, alive, cellsOf, setFrom, Nat.reduceEqDiff, Nat.reduceAdd, ↓reduceIte, reduceCtorEq, Nat.reduceLeDiff, Nat.reduceLT, forall_const, ils_len, e ])))))
  refine dwp_each x.ins (fun k (o : List Int) => ⟨[(1, .ptr 0 1 0 0), (2, .ptr 1 1 0 0), (3, .ptr 2 1 0 0), (6, .int .i64 k)], [⟨.loc, 6, [cImg x]⟩, ⟨.loc, 4, [[.nil, .nil, .int .i64 0, .int .i64 0]]⟩, ⟨.loc, 4, [[.own 4 (ctorsF x).length 0 (ctorsF x).length, .own 3 (o).length 0 (o).length, .int .i64 ((kS x).length : Int), .int .i64 0]]⟩, ⟨.imm, 1, ils (o)⟩, ⟨.imm, 1, ils (ctorsF x)⟩]⟩) (fun k r o => o ++ kindsA (r.map (·.ty)) = kI x ∧ o.length ≤ 8000000 + 8 * k) (kS x) (Nat.zero_le _) (by simp only [cut_some, List.map_cons, List.map_nil, get_cons, Nk.get_nil, Nat.reduceEqDiff, ↓reduceIte, Nat.succ_ne_self, DV.cut, DV.inB, DObj.cut, List.take_nil, reduceCtorEq, decide_true, Nat.reduceLT, List.take_succ_cons] <;> rfl) ⟨rfl, by omega⟩ (fun k y r o d hx hd hr => ?_) (fun k o e hr => ?_)
  · obtain ⟨h1, h2⟩ := hr
    have hb := kindsOf_b y.ty
    simp only [List.map_cons, kindsA_cons] at h1
    have e1 := s_kinds_run y.ty 3 o ([⟨.loc, 6, [cImg x]⟩, ⟨.loc, 4, [[.nil, .nil, .int .i64 0, .int .i64 0]]⟩, ⟨.loc, 4, [[.own 4 (ctorsF x).length 0 (ctorsF x).length, .own 3 (o).length 0 (o).length, .int .i64 ((kS x).length : Int), .int .i64 0]]⟩, ⟨.imm, 1, ils (o)⟩, ⟨.imm, 1, ils (ctorsF x)⟩]) rfl
    simp only [cTy] at e1
    (have hcondQ := Bool.and_self; refine Todo.of ?_); (repeat' (first | ((with_reducible refine Todo.to ?_); (repeat (first | (simp only [↓rP, rT, rU, dvalX, dval, dBin, dInt, dLoad, cellsAt, dStore, DV.one, alive, cellsOf, setFrom, Nat.reduceEqDiff, Nat.reduceAdd, ↓reduceIte, reduceCtorEq, Nat.reduceLeDiff, Nat.reduceLT, forall_const, d, map_getD cPrt hx, e1, one ]) | ((simp (disch := omega) only [i64_id]))))) | ((with_reducible refine And.intro ?_ ?_); · omega) | fail))
    exact ⟨o ++ kindsOf y.ty, by simp only [cut_some, List.map_cons, List.map_nil, get_cons, Nk.get_nil, Nat.reduceEqDiff, ↓reduceIte, Nat.succ_ne_self, DV.cut, DV.inB, DObj.cut, List.take_nil, reduceCtorEq, decide_true, Nat.reduceLT, List.take_succ_cons, Int.natCast_add, Int.natCast_one, List.length_append] <;> rfl, by simpa using h1, by simp; omega⟩
  obtain ⟨h1, h2⟩ := hr
  simp only [List.map_nil, kindsA_nil, List.append_nil] at h1
  subst h1
  (have hcondQ := Bool.and_self; refine Todo.of ?_); (repeat' (first | ((with_reducible refine Todo.to ?_); (repeat (simp only [↓rP, rT, rU, dvalX, dval, dBin, dInt, dLoad, cellsAt, dStore, DV.one, alive, cellsOf, setFrom, Nat.reduceEqDiff, Nat.reduceAdd, ↓reduceIte, reduceCtorEq, Nat.reduceLeDiff, Nat.reduceLT, forall_const, ils_len, e ])))))
  refine dwp_each x.outs (fun k (o : List Int) => ⟨[(1, .ptr 0 1 0 0), (2, .ptr 1 1 0 0), (3, .ptr 2 1 0 0), (7, .int .i64 k)], [⟨.loc, 6, [cImg x]⟩, ⟨.loc, 4, [[.nil, .nil, .int .i64 0, .int .i64 0]]⟩, ⟨.loc, 4, [[.own 4 (ctorsF x).length 0 (ctorsF x).length, .own 3 (o).length 0 (o).length, .int .i64 ((kS x).length : Int), .int .i64 ((kI x).length : Int)]]⟩, ⟨.imm, 1, ils (o)⟩, ⟨.imm, 1, ils (ctorsF x)⟩]⟩) (fun k r o => o ++ kindsA (r.map (·.ty)) = kO x ∧ o.length ≤ 16000000 + 8 * k) (kI x) (Nat.zero_le _) (by simp only [cut_some, List.map_cons, List.map_nil, get_cons, Nk.get_nil, Nat.reduceEqDiff, ↓reduceIte, Nat.succ_ne_self, DV.cut, DV.inB, DObj.cut, List.take_nil, reduceCtorEq, decide_true, Nat.reduceLT, List.take_succ_cons] <;> rfl) ⟨rfl, by omega⟩ (fun k y r o d hx hd hr => ?_) (fun k o e hr => ?_)
  · obtain ⟨h1, h2⟩ := hr
    have hb := kindsOf_b y.ty
    simp only [List.map_cons, kindsA_cons] at h1
    have e1 := s_kinds_run y.ty 3 o ([⟨.loc, 6, [cImg x]⟩, ⟨.loc, 4, [[.nil, .nil, .int .i64 0, .int .i64 0]]⟩, ⟨.loc, 4, [[.own 4 (ctorsF x).length 0 (ctorsF x).length, .own 3 (o).length 0 (o).length, .int .i64 ((kS x).length : Int), .int .i64 ((kI x).length : Int)]]⟩, ⟨.imm, 1, ils (o)⟩, ⟨.imm, 1, ils (ctorsF x)⟩]) rfl
    simp only [cTy] at e1
    (have hcondQ := Bool.and_self; refine Todo.of ?_); (repeat' (first | ((with_reducible refine Todo.to ?_); (repeat (first | (simp only [↓rP, rT, rU, dvalX, dval, dBin, dInt, dLoad, cellsAt, dStore, DV.one, alive, cellsOf, setFrom, Nat.reduceEqDiff, Nat.reduceAdd, ↓reduceIte, reduceCtorEq, Nat.reduceLeDiff, Nat.reduceLT, forall_const, d, map_getD cPrt hx, e1, one ]) | ((simp (disch := omega) only [i64_id]))))) | ((with_reducible refine And.intro ?_ ?_); · omega) | fail))
    exact ⟨o ++ kindsOf y.ty, by simp only [cut_some, List.map_cons, List.map_nil, get_cons, Nk.get_nil, Nat.reduceEqDiff, ↓reduceIte, Nat.succ_ne_self, DV.cut, DV.inB, DObj.cut, List.take_nil, reduceCtorEq, decide_true, Nat.reduceLT, List.take_succ_cons, Int.natCast_add, Int.natCast_one, List.length_append] <;> rfl, by simpa using h1, by simp; omega⟩
  obtain ⟨h1, h2⟩ := hr
  simp only [List.map_nil, kindsA_nil, List.append_nil] at h1
  subst h1
  (have hcondQ := Bool.and_self; refine Todo.of ?_); (repeat' (first | ((with_reducible refine Todo.to ?_); (repeat (simp only [↓rP, rT, rU, dvalX, dval, dBin, dInt, dLoad, cellsAt, retV, DR.val, fzT, fzV, fz1, DV.immB, elemsOf, dAppend, dStore, DV.one, alive, freezeAt, fzL, cellsOf, setFrom, lenMax, Nat.reduceEqDiff, Nat.reduceAdd, ↓reduceIte, reduceCtorEq, Nat.reduceLeDiff, Nat.reduceLT, forall_const, ils_len, ils_rowsT, ils_tk0, e ]))) | ((with_reducible refine And.intro ?_ ?_); · first | (trivial) | (omega)) | fail))
  repeat' (refine And.intro ?_ ?_)
  all_goals first
    | rfl
    | exact Nat.le_refl _
    | (rw [List.take_of_length_le (by rw [ils_len]; exact Nat.le_refl _)]; rfl)
    | (rw [ils_append, List.take_of_length_le (by rw [ils_len, List.length_append]; exact Nat.le_refl _)]; rfl)
end Go.Proofs.YtjgefhgkinocmaaGreat

