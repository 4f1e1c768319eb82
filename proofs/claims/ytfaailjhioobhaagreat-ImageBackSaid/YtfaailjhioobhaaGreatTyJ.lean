/- Types, enums: which are right, how many cells, which are alike. -/
import Derived.Test.YtfaailjhioobhaaGreatBa
import Derived.Test.YtfaailjhioobhaaGreatI4
import Derived.Test.YtfaailjhioobhaaGreatIdx
import Derived.Test.YtfaailjhioobhaaGreatNkZ3
set_option linter.all false
set_option maxRecDepth 20000
namespace Go.Proofs.YtfaailjhioobhaaGreat
open Go.Nk

/-- A type. -/
structure Ty where
  k : Int
  e : Int
  n : Int
@[reducible] def cTy (t : Ty) : List DV := [.int .i64 t.k, .int .i64 t.e, .int .i64 t.n]
theorem cTy_inj : ∀ x y, cTy x = cTy y → x = y := fun x y h => by
  cases x; cases y
  simp only [cTy, List.cons.injEq, DV.int.injEq, true_and, and_true] at h
  obtain ⟨rfl, rfl, rfl⟩ := h
  rfl
instance : Inhabited Ty := ⟨⟨0, 0, 0⟩⟩
abbrev eTy : Ty → DV := eA cTy
theorem inj_Ty : Inj eTy := inj_A cTy_inj


/-- An enum. -/
structure En where
  name : List UInt8
  ct : List (List UInt8)
@[reducible] def cEn (x : En) : List DV := [.str x.name, .sl (sls x.ct)]
theorem cEn_inj : ∀ x y, cEn x = cEn y → x = y := fun x y h => by
  cases x; cases y
  simp only [cEn, List.cons.injEq, DV.str.injEq, DV.sl.injEq, and_true] at h
  obtain ⟨rfl, h2⟩ := h
  rw [sls_inj h2]
instance : Inhabited En := ⟨⟨[], []⟩⟩
abbrev eEns : List En → DV := eL cEn
theorem inj_Ens : Inj eEns := inj_L cEn_inj

def cellsTy (t : Ty) : Int := if t.n < 1 then 1 else if 8 < t.n then 8 else t.n
noncomputable def s_CellsTy : List DV → Prop × DV := spec1 eTy fun t => (True, .int .i64 (cellsTy t))
theorem s_CellsTy_at (t : Ty) : s_CellsTy [.agg (cTy t)] = (True, .int .i64 (cellsTy t)) := spec1_at inj_Ty _ _
theorem ok_CellsTy : OkP Tryz.prog 88 s_CellsTy := by
  refine OkP.mk1 (ps := []) (hs := []) trivial trivial m_ty_Cells fun t _ => ?_
  (have hcondQ := Bool.and_self; refine Todo.of ?_; repeat' (first | ((with_reducible refine Todo.to ?_); try simp only [↓rP, rT, rU, dvalX, dval, dLoad, cellsAt, retV, DR.val, fzT, fzV, fz1, DV.immB, DV.one, alive, cellsOf, Nat.reduceEqDiff, Nat.reduceAdd, ↓reduceIte, reduceCtorEq, forall_const, d_ty_Cells]) | ((with_reducible refine And.intro ?_ ?_); · first | trivial | omega | (simp; done) | (simp; omega)) | (((with_reducible refine dwp_condA ?_ ?_ ?_); · rfl) <;> (refine Todo.of ?_))))
  all_goals grind [cellsTy]

noncomputable def s_Names : List DV → Prop × DV := spec2 eSs eSs fun a b => (a.length ≤ 1000000000, .bool (decide (a = b)))
theorem s_Names_at (a b : List (List UInt8)) : s_Names [.sl (sls a), .sl (sls b)] = (a.length ≤ 1000000000, .bool (decide (a = b))) := spec2_at inj_Ss inj_Ss _ _ _
theorem ok_Names : OkP Tryz.prog 126 s_Names := by
  refine OkP.mk2 (ps := []) (hs := []) trivial trivial m_noriaref01_Names fun a b h => ?_
  by_cases c : a.length = b.length
  rotate_left
  · have c1 : ((a.length : Int) != (b.length : Int)) = true := by simp; omega
    have c2 : decide (a = b) = false := by simp; intro e; rw [e] at c; exact c rfl
    (have hcondQ := Bool.and_self; refine Todo.of ?_; repeat' (first | ((with_reducible refine Todo.to ?_); try simp only [↓rP, rT, dvalX, dval, dBin, dInt, retV, DR.val, fzT, fzV, fz1, DV.immB, Nat.reduceEqDiff, ↓reduceIte, reduceCtorEq, d_noriaref01_Names, eSs, sls_len, c1, c2]) | ((with_reducible refine And.intro ?_ ?_); · first | trivial | omega | (simp; done) | (simp; omega)) | (((with_reducible refine dwp_condA ?_ ?_ ?_); · rfl) <;> (refine Todo.of ?_))))
  have c1 : ((a.length : Int) != (b.length : Int)) = false := by simp; omega
  (have hcondQ := Bool.and_self; refine Todo.of ?_; repeat' (first | ((with_reducible refine Todo.to ?_); try simp only [↓rP, rT, dvalX, dval, dBin, dInt, Nat.reduceEqDiff, ↓reduceIte, reduceCtorEq, d_noriaref01_Names, eSs, sls_len, c1]) | ((with_reducible refine And.intro ?_ ?_); · first | trivial | omega | (simp; done) | (simp; omega)) | (((with_reducible refine dwp_condA ?_ ?_ ?_); · rfl) <;> (refine Todo.of ?_))))
  refine dwp_loop (fun k : Nat => ⟨[(0, .sl (sls a)), (1, .sl (sls b)), (5, .int .i64 k)], []⟩) (fun k => k ≤ a.length ∧ a.take k = b.take k) (fun k => a.length - k) 0 (by exact Nat.zero_le _) ?_ ⟨Nat.zero_le _, rfl⟩ fun k hk => ?_
  · simp only [cut_some, List.map_cons, List.map_nil, get_cons, Nk.get_nil, Nat.reduceEqDiff, ↓reduceIte, Nat.succ_ne_self, DV.cut, DV.inB, List.take_nil, reduceCtorEq]
    rfl
  obtain ⟨hk, ht⟩ := hk
  have h' : a.length ≤ 1000000000 := h
  by_cases d : k < a.length
  · have w : IntKind.i64.wrap ((k : Int) + 1) = ((k + 1 : Nat) : Int) := by rw [wrap_i64_id (by omega)]; omega
    have e1 := sls_getD d
    have e2 := sls_getD (l := b) (i := k) (by omega)
    have d2 : k < b.length := by omega
    (have hcondQ := Bool.and_self; refine Todo.of ?_; repeat' (first | ((with_reducible refine Todo.to ?_); try simp only [↓rP, rT, rU, dvalX, dval, dBin, dInt, dStr, dLoad, cellsAt, retV, DR.val, fzT, fzV, fz1, DV.immB, Nat.reduceEqDiff, ↓reduceIte, reduceCtorEq, sls_len, e1, e2, d, d2, w, hcondQ]) | ((with_reducible refine And.intro ?_ ?_); · first | trivial | omega | (simp; done) | (simp; omega)) | ((first | ((with_reducible refine dwp_condI (t := ?_) ?_ (fun hcQ => ?_) (fun hcQ => ?_)); rotate_left; · rfl) | ((with_reducible refine dops_guardI (t := ?_) ?_ (fun hcQ => ?_) (fun hcQ => ?_)); rotate_left; · rfl)) <;> (have hn := hcQ; have hcondQ := hcQ) <;> (try simp only [beq_iff_eq, ne_eq, beq_eq_false_iff_ne, Bool.not_eq_true', Bool.not_eq_false'] at hn) <;> (try (exfalso; omega)) <;> (refine Todo.of ?_)) | (((with_reducible refine dwp_condA ?_ ?_ ?_); · rfl) <;> (refine Todo.of ?_))))
    · have : a ≠ b := fun e => by subst e; simp_all
      simp [this]
    · refine ⟨k + 1, ?_, ⟨by omega, getD_eqS d d2 ht (by simp_all)⟩, by omega⟩
      simp only [cut_some, List.map_cons, List.map_nil, get_cons, Nk.get_nil, Nat.reduceEqDiff, ↓reduceIte, Nat.succ_ne_self, DV.cut, DV.inB, List.take_nil, reduceCtorEq]
  · have e : a = b := by
      have hk2 : k = a.length := by omega
      rw [hk2, List.take_length, c, List.take_length] at ht
      exact ht
    (have hcondQ := Bool.and_self; refine Todo.of ?_; repeat' (first | ((with_reducible refine Todo.to ?_); try simp only [↓rP, rT, rU, dvalX, dval, dBin, dInt, retV, DR.val, fzT, fzV, fz1, DV.immB, Nat.reduceEqDiff, ↓reduceIte, reduceCtorEq, sls_len, e, hcondQ]) | ((with_reducible refine And.intro ?_ ?_); · first | trivial | omega | (simp; done) | (simp; omega)) | ((first | ((with_reducible refine dwp_condI (t := ?_) ?_ (fun hcQ => ?_) (fun hcQ => ?_)); rotate_left; · rfl) | ((with_reducible refine dops_guardI (t := ?_) ?_ (fun hcQ => ?_) (fun hcQ => ?_)); rotate_left; · rfl)) <;> (have hn := hcQ; have hcondQ := hcQ) <;> (try simp only [decide_eq_true_eq, decide_eq_false_iff_not] at hn) <;> (try (exfalso; omega)) <;> (refine Todo.of ?_)) | (((with_reducible refine dwp_condA ?_ ?_ ?_); · rfl) <;> (refine Todo.of ?_))))
theorem ok_Equal : OkP Tryz.prog 103 s_Names := by
  refine OkP.mk2 (ps := []) (hs := []) trivial trivial m_slices_Equal_string_string fun a b h => ?_
  by_cases c : a.length = b.length
  rotate_left
  · have c1 : ((a.length : Int) != (b.length : Int)) = true := by simp; omega
    have c2 : decide (a = b) = false := by simp; intro e; rw [e] at c; exact c rfl
    (have hcondQ := Bool.and_self; refine Todo.of ?_; repeat' (first | ((with_reducible refine Todo.to ?_); try simp only [↓rP, rT, dvalX, dval, dBin, dInt, retV, DR.val, fzT, fzV, fz1, DV.immB, Nat.reduceEqDiff, ↓reduceIte, reduceCtorEq, d_slices_Equal_string_string, eSs, sls_len, c1, c2]) | ((with_reducible refine And.intro ?_ ?_); · first | trivial | omega | (simp; done) | (simp; omega)) | (((with_reducible refine dwp_condA ?_ ?_ ?_); · rfl) <;> (refine Todo.of ?_))))
  have c1 : ((a.length : Int) != (b.length : Int)) = false := by simp; omega
  (have hcondQ := Bool.and_self; refine Todo.of ?_; repeat' (first | ((with_reducible refine Todo.to ?_); try simp only [↓rP, rT, dvalX, dval, dBin, dInt, Nat.reduceEqDiff, ↓reduceIte, reduceCtorEq, d_slices_Equal_string_string, eSs, sls_len, c1]) | ((with_reducible refine And.intro ?_ ?_); · first | trivial | omega | (simp; done) | (simp; omega)) | (((with_reducible refine dwp_condA ?_ ?_ ?_); · rfl) <;> (refine Todo.of ?_))))
  refine dwp_loop (fun k : Nat => ⟨[(0, .sl (sls a)), (1, .sl (sls b)), (12, .int .i64 a.length), (13, .int .i64 k)], []⟩) (fun k => k ≤ a.length ∧ a.take k = b.take k) (fun k => a.length - k) 0 (by exact Nat.zero_le _) ?_ ⟨Nat.zero_le _, rfl⟩ fun k hk => ?_
  · simp only [cut_some, List.map_cons, List.map_nil, get_cons, Nk.get_nil, Nat.reduceEqDiff, ↓reduceIte, Nat.succ_ne_self, DV.cut, DV.inB, List.take_nil, reduceCtorEq]
    rfl
  obtain ⟨hk, ht⟩ := hk
  have h' : a.length ≤ 1000000000 := h
  by_cases d : k < a.length
  · have w : IntKind.i64.wrap ((k : Int) + 1) = ((k + 1 : Nat) : Int) := by rw [wrap_i64_id (by omega)]; omega
    have e1 := sls_getD d
    have e2 := sls_getD (l := b) (i := k) (by omega)
    have d2 : k < b.length := by omega
    (have hcondQ := Bool.and_self; refine Todo.of ?_; repeat' (first | ((with_reducible refine Todo.to ?_); try simp only [↓rP, rT, rU, dvalX, dval, dBin, dInt, dStr, dLoad, cellsAt, retV, DR.val, fzT, fzV, fz1, DV.immB, Nat.reduceEqDiff, ↓reduceIte, reduceCtorEq, sls_len, e1, e2, d, d2, w, hcondQ]) | ((with_reducible refine And.intro ?_ ?_); · first | trivial | omega | (simp; done) | (simp; omega)) | ((first | ((with_reducible refine dwp_condI (t := ?_) ?_ (fun hcQ => ?_) (fun hcQ => ?_)); rotate_left; · rfl) | ((with_reducible refine dops_guardI (t := ?_) ?_ (fun hcQ => ?_) (fun hcQ => ?_)); rotate_left; · rfl)) <;> (have hn := hcQ; have hcondQ := hcQ) <;> (try simp only [beq_iff_eq, ne_eq, beq_eq_false_iff_ne, Bool.not_eq_true', Bool.not_eq_false'] at hn) <;> (try (exfalso; omega)) <;> (refine Todo.of ?_)) | (((with_reducible refine dwp_condA ?_ ?_ ?_); · rfl) <;> (refine Todo.of ?_))))
    · have : a ≠ b := fun e => by subst e; simp_all
      simp [this]
    · refine ⟨k + 1, ?_, ⟨by omega, getD_eqS d d2 ht (by simp_all)⟩, by omega⟩
      simp only [cut_some, List.map_cons, List.map_nil, get_cons, Nk.get_nil, Nat.reduceEqDiff, ↓reduceIte, Nat.succ_ne_self, DV.cut, DV.inB, List.take_nil, reduceCtorEq]
  · have e : a = b := by
      have hk2 : k = a.length := by omega
      rw [hk2, List.take_length, c, List.take_length] at ht
      exact ht
    (have hcondQ := Bool.and_self; refine Todo.of ?_; repeat' (first | ((with_reducible refine Todo.to ?_); try simp only [↓rP, rT, rU, dvalX, dval, dBin, dInt, retV, DR.val, fzT, fzV, fz1, DV.immB, Nat.reduceEqDiff, ↓reduceIte, reduceCtorEq, e, hcondQ]) | ((with_reducible refine And.intro ?_ ?_); · first | trivial | omega | (simp; done) | (simp; omega)) | ((first | ((with_reducible refine dwp_condI (t := ?_) ?_ (fun hcQ => ?_) (fun hcQ => ?_)); rotate_left; · rfl) | ((with_reducible refine dops_guardI (t := ?_) ?_ (fun hcQ => ?_) (fun hcQ => ?_)); rotate_left; · rfl)) <;> (have hn := hcQ; have hcondQ := hcQ) <;> (try simp only [decide_eq_true_eq, decide_eq_false_iff_not] at hn) <;> (try (exfalso; omega)) <;> (refine Todo.of ?_)) | (((with_reducible refine dwp_condA ?_ ?_ ?_); · rfl) <;> (refine Todo.of ?_))))
end Go.Proofs.YtfaailjhioobhaaGreat

/- Which types of two lists are alike. -/
set_option linter.all false
set_option maxRecDepth 20000
namespace Go.Proofs.YtfaailjhioobhaaGreat
open Go.Nk

theorem en_getD {l : List En} {j : Nat} (h : j < l.length) : (l.map cEn).getD j [] = cEn (l.getD j default) := by simp [h]
end Go.Proofs.YtfaailjhioobhaaGreat

/- Ports, slots, images; which images have the same inputs and outputs. -/
set_option linter.all false
set_option maxRecDepth 20000
namespace Go.Proofs.YtfaailjhioobhaaGreat
open Go.Nk


/-- A port. -/
structure Prt where
  name : List UInt8
  ty : Ty
@[reducible] def cPrt (p : Prt) : List DV := [.str p.name, .int .i64 p.ty.k, .int .i64 p.ty.e, .int .i64 p.ty.n]
theorem cPrt_inj : ∀ x y, cPrt x = cPrt y → x = y := fun x y h => by
  obtain ⟨n, k, e, m⟩ := x; obtain ⟨n', k', e', m'⟩ := y
  simp only [cPrt, List.cons.injEq, DV.str.injEq, DV.int.injEq, true_and, and_true] at h
  obtain ⟨rfl, rfl, rfl, rfl⟩ := h
  rfl
instance : Inhabited Prt := ⟨⟨[], default⟩⟩
abbrev ePrts : List Prt → DV := eL cPrt
/-- What is kept. -/
structure Slt where
  path : List UInt8
  ty : Ty
  at_ : Int
  ini : List Int
@[reducible] def cSlt (s : Slt) : List DV := [.str s.path, .int .i64 s.ty.k, .int .i64 s.ty.e, .int .i64 s.ty.n, .int .i64 s.at_, .sl (ils s.ini)]
theorem cSlt_inj : ∀ x y, cSlt x = cSlt y → x = y := fun x y h => by
  obtain ⟨n, ⟨k, e, m⟩, a, i⟩ := x; obtain ⟨n', ⟨k', e', m'⟩, a', i'⟩ := y
  simp only [cSlt, List.cons.injEq, DV.str.injEq, DV.int.injEq, DV.sl.injEq, true_and, and_true] at h
  obtain ⟨rfl, rfl, rfl, rfl, rfl, h⟩ := h
  rw [ils_inj h]
instance : Inhabited Slt := ⟨⟨[], default, 0, []⟩⟩

@[reducible] def cIn4 (x : In4) : List DV := [.int .i64 x.op, .int .i64 x.a, .int .i64 x.b, .int .i64 x.n]
theorem cIn4_inj : ∀ x y, cIn4 x = cIn4 y → x = y := fun x y h => by
  cases x; cases y
  simp only [cIn4, List.cons.injEq, DV.int.injEq, true_and, and_true] at h
  obtain ⟨rfl, rfl, rfl, rfl⟩ := h
  rfl

/-- An image. -/
structure Img where
  en : List En
  ins : List Prt
  outs : List Prt
  slots : List Slt
  loc : List Int
  code : List In4
@[reducible] def cImg (x : Img) : List DV := [.sl (x.en.map cEn), .sl (x.ins.map cPrt), .sl (x.outs.map cPrt), .sl (x.slots.map cSlt), .sl (ils x.loc), .sl (x.code.map cIn4)]
theorem cImg_inj : ∀ x y, cImg x = cImg y → x = y := fun x y h => by
  cases x; cases y
  simp only [cImg, List.cons.injEq, DV.sl.injEq, and_true] at h
  obtain ⟨h1, h2, h3, h4, h5, h6⟩ := h
  rw [map_inj cEn_inj _ _ h1, map_inj cPrt_inj _ _ h2, map_inj cPrt_inj _ _ h3, map_inj cSlt_inj _ _ h4, ils_inj h5, map_inj cIn4_inj _ _ h6]
abbrev eImg : Img → DV := eA cImg
theorem inj_Img : Inj eImg := inj_A cImg_inj

end Go.Proofs.YtfaailjhioobhaaGreat

/- Which images have the same inputs and outputs. -/
set_option linter.all false
set_option maxRecDepth 20000
namespace Go.Proofs.YtfaailjhioobhaaGreat
open Go.Nk

end Go.Proofs.YtfaailjhioobhaaGreat

/- Which values a type has. -/
set_option linter.all false
set_option maxRecDepth 20000
namespace Go.Proofs.YtfaailjhioobhaaGreat
open Go.Nk

end Go.Proofs.YtfaailjhioobhaaGreat

/- Which lists of numbers a type has; how many numbers what is kept has, and what is kept at first. -/
set_option linter.all false
set_option maxRecDepth 20000
namespace Go.Proofs.YtfaailjhioobhaaGreat
open Go.Nk

theorem cellsTy_b (t : Ty) : 1 ≤ cellsTy t ∧ cellsTy t ≤ 8 := by
  unfold cellsTy
  by_cases h1 : t.n < 1
  · rw [if_pos h1]; omega
  · rw [if_neg h1]
    by_cases h2 : 8 < t.n
    · rw [if_pos h2]; omega
    · rw [if_neg h2]; omega
abbrev eSlts : List Slt → DV := eL cSlt
end Go.Proofs.YtfaailjhioobhaaGreat

/- A type's kind; what is kept at first. -/
set_option linter.all false
set_option maxRecDepth 20000
namespace Go.Proofs.YtfaailjhioobhaaGreat
open Go.Nk

end Go.Proofs.YtfaailjhioobhaaGreat

/- Which enums are small. -/
set_option linter.all false
set_option maxRecDepth 20000
namespace Go.Proofs.YtfaailjhioobhaaGreat
open Go.Nk

def smallC (l : List (List UInt8)) : Bool := l.all fun s => decide (s.length ≤ 100)
def smallE (x : En) : Bool := decide (x.ct.length ≤ 12) && decide (x.name.length ≤ 100) && smallC x.ct
def smallF (l : List En) : Bool := decide (l.length ≤ 8) && l.all smallE
noncomputable def s_Small : List DV → Prop × DV := spec1 eEns fun l => (True, .bool (smallF l))
theorem s_Small_at (l : List En) : s_Small [.sl (l.map cEn)] = (True, .bool (smallF l)) := spec1_at inj_Ens _ _
theorem ok_Small : OkP Tryz.prog 17 s_Small := by
  refine OkP.mk1 (ps := []) (hs := []) trivial trivial m_noriaref05_Small fun l _ => ?_
  by_cases q : l.length ≤ 8
  rotate_left
  · have n1 : (8 : Int) < (l.length : Int) := by omega
    have hr : smallF l = false := by simp [smallF]; intro h; omega
    (have hcondQ := Bool.and_self; refine Todo.of ?_; repeat' (first | ((with_reducible refine Todo.to ?_); try simp only [↓rP, rT, rU, dvalX, dval, dBin, dInt, retV, DR.val, fzT, fzV, fz1, DV.immB, ↓reduceIte, reduceCtorEq, d_noriaref05_Small, n1, hr]) | ((with_reducible refine And.intro ?_ ?_); · first | trivial | omega | (simp; done) | (simp; omega)) | (((with_reducible refine dwp_condA ?_ ?_ ?_); · rfl) <;> (refine Todo.of ?_))))
  have n1 : ¬ (8 : Int) < (l.length : Int) := by omega
  have hr : smallF l = l.all smallE := by simp [smallF, q]
  (have hcondQ := Bool.and_self; refine Todo.of ?_; repeat' (first | ((with_reducible refine Todo.to ?_); try simp only [↓rP, rT, rU, dvalX, dval, dBin, dInt, ↓reduceIte, reduceCtorEq, d_noriaref05_Small, n1]) | ((with_reducible refine And.intro ?_ ?_); · first | trivial | omega | (simp; done) | (simp; omega)) | (((with_reducible refine dwp_condA ?_ ?_ ?_); · rfl) <;> (refine Todo.of ?_))))
  refine dwp_loop (fun k : Nat => ⟨[(0, .sl (l.map cEn)), (3, .int .i64 k)], []⟩) (fun k => k ≤ l.length ∧ ∀ x ∈ l.take k, smallE x = true) (fun k => l.length - k) 0 (by exact Nat.zero_le _) ?_ ⟨Nat.zero_le _, by simp⟩ fun k hk => ?_
  · simp only [cut_some, List.map_cons, List.map_nil, get_cons, Nk.get_nil, ↓reduceIte, DV.cut, DV.inB, List.take_nil, reduceCtorEq]
    rfl
  obtain ⟨hk, ht⟩ := hk
  by_cases d : k < l.length
  rotate_left
  · have e := all_take d ht
    rw [e] at hr
    (have hcondQ := Bool.and_self; refine Todo.of ?_; repeat' (first | ((with_reducible refine Todo.to ?_); try simp only [↓rP, rT, rU, dvalX, dval, dBin, dInt, retV, DR.val, fzT, fzV, fz1, DV.immB, Nat.reduceEqDiff, ↓reduceIte, reduceCtorEq, d, hr]) | ((with_reducible refine And.intro ?_ ?_); · first | trivial | omega | (simp; done) | (simp; omega)) | (((with_reducible refine dwp_condA ?_ ?_ ?_); · rfl) <;> (refine Todo.of ?_))))
  have w : IntKind.i64.wrap ((k : Int) + 1) = ((k + 1 : Nat) : Int) := by rw [wrap_i64_id (by omega)]; omega
  have e1 := en_getD d
  have n2 := @all_not _ smallE l default k d
  have n3 := @take_yes _ smallE l default k d ht
  generalize l.getD k default = x at *
  simp only [cEn] at e1
  by_cases c : x.ct.length ≤ 12 ∧ x.name.length ≤ 100
  rotate_left
  · have := n2 (by simp only [smallE]; grind)
    rw [this] at hr
    (have hcondQ := Bool.and_self; refine Todo.of ?_; repeat' (first | ((with_reducible refine Todo.to ?_); try simp only [↓rP, rT, rU, dvalX, dval, dBin, dInt, dLoad, cellsAt, retV, DR.val, fzT, fzV, fz1, DV.immB, Nat.reduceEqDiff, Nat.reduceAdd, ↓reduceIte, reduceCtorEq, Nat.reduceLT, sls_len, e1, d, hr, hcondQ]) | ((with_reducible refine And.intro ?_ ?_); · first | trivial | omega | (simp; done) | (simp; omega)) | ((first | ((with_reducible refine dwp_condI (t := ?_) ?_ (fun hcQ => ?_) (fun hcQ => ?_)); rotate_left; · rfl) | ((with_reducible refine dops_guardI (t := ?_) ?_ (fun hcQ => ?_) (fun hcQ => ?_)); rotate_left; · rfl)) <;> (have hn := hcQ; have hcondQ := hcQ) <;> (try simp only [decide_eq_true_eq, decide_eq_false_iff_not] at hn) <;> (try (exfalso; omega)) <;> (refine Todo.of ?_)) | (((with_reducible refine dwp_condA ?_ ?_ ?_); · rfl) <;> (refine Todo.of ?_))))
    all_goals (exfalso; omega)
  obtain ⟨c1, c2⟩ := c
  have m1 : ¬ (12 : Int) < (x.ct.length : Int) := by omega
  have m2 : ¬ (100 : Int) < (x.name.length : Int) := by omega
  have hx : smallE x = smallC x.ct := by simp [smallE, c1, c2]
  (have hcondQ := Bool.and_self; refine Todo.of ?_; repeat' (first | ((with_reducible refine Todo.to ?_); try simp only [↓rP, rT, rU, dvalX, dval, dBin, dInt, dLoad, cellsAt, Nat.reduceEqDiff, Nat.reduceAdd, ↓reduceIte, reduceCtorEq, Nat.reduceLT, sls_len, e1, d, m1, m2]) | ((with_reducible refine And.intro ?_ ?_); · first | trivial | omega | (simp; done) | (simp; omega)) | (((with_reducible refine dwp_condA ?_ ?_ ?_); · rfl) <;> (refine Todo.of ?_))))
  refine dwp_loop (fun j : Nat => ⟨[(0, .sl (l.map cEn)), (3, .int .i64 k), (4, .int .i64 j)], []⟩) (fun j => j ≤ x.ct.length ∧ ∀ s ∈ x.ct.take j, (fun s : List UInt8 => decide (s.length ≤ 100)) s = true) (fun j => x.ct.length - j) 0 (by exact Nat.zero_le _) ?_ ⟨Nat.zero_le _, by simp⟩ fun j hj => ?_
  · simp only [cut_some, List.map_cons, List.map_nil, get_cons, Nk.get_nil, Nat.reduceEqDiff, ↓reduceIte, DV.cut, DV.inB, List.take_nil, reduceCtorEq]
    rfl
  obtain ⟨hj, hs⟩ := hj
  by_cases dj : j < x.ct.length
  rotate_left
  · have e := all_take dj hs
    have := n3 (by rw [hx]; exact e)
    (have hcondQ := Bool.and_self; refine Todo.of ?_; repeat' (first | ((with_reducible refine Todo.to ?_); try simp only [↓rP, rT, rU, dvalX, dval, dBin, dInt, dLoad, cellsAt, Nat.reduceEqDiff, Nat.reduceAdd, ↓reduceIte, reduceCtorEq, sls_len, e1, d, dj, w]) | ((with_reducible refine And.intro ?_ ?_); · first | trivial | omega | (simp; done) | (simp; omega)) | (((with_reducible refine dwp_condA ?_ ?_ ?_); · rfl) <;> (refine Todo.of ?_))))
    refine ⟨k + 1, ?_, ⟨by omega, this⟩, by omega⟩
    simp only [cut_some, List.map_cons, List.map_nil, get_cons, Nk.get_nil, ↓reduceIte, DV.cut, DV.inB, List.take_nil, reduceCtorEq]
  have wj : IntKind.i64.wrap ((j : Int) + 1) = ((j + 1 : Nat) : Int) := by rw [wrap_i64_id (by omega)]; omega
  have e2 := sls_getD dj
  have n4 := @all_not _ (fun s : List UInt8 => decide (s.length ≤ 100)) x.ct [] j dj
  have n5 := @take_yes _ (fun s : List UInt8 => decide (s.length ≤ 100)) x.ct [] j dj hs
  generalize x.ct.getD j [] = y at *
  (have hcondQ := Bool.and_self; refine Todo.of ?_; repeat' (first | ((with_reducible refine Todo.to ?_); try simp only [↓rP, rT, rU, dvalX, dval, dBin, dInt, dLoad, cellsAt, retV, DR.val, fzT, fzV, fz1, DV.immB, Nat.reduceEqDiff, Nat.reduceAdd, ↓reduceIte, reduceCtorEq, sls_len, e1, e2, d, dj, wj, hcondQ]) | ((with_reducible refine And.intro ?_ ?_); · first | trivial | omega | (simp; done) | (simp; omega)) | ((first | ((with_reducible refine dwp_condI (t := ?_) ?_ (fun hcQ => ?_) (fun hcQ => ?_)); rotate_left; · rfl) | ((with_reducible refine dops_guardI (t := ?_) ?_ (fun hcQ => ?_) (fun hcQ => ?_)); rotate_left; · rfl)) <;> (have hn := hcQ; have hcondQ := hcQ) <;> (try simp only [decide_eq_true_eq, decide_eq_false_iff_not] at hn) <;> (try (exfalso; omega)) <;> (refine Todo.of ?_)) | (((with_reducible refine dwp_condA ?_ ?_ ?_); · rfl) <;> (refine Todo.of ?_))))
  all_goals first
    | (have := n2 (by rw [hx]; exact n4 (by simp only [decide_eq_false_iff_not]; omega))
       simp only [hr, this]; done)
    | (refine ⟨j + 1, ?_, ⟨by omega, fun s hs' => of_decide_eq_true (n5 (by simp only [decide_eq_true_eq]; omega) s hs')⟩, by omega⟩
       simp only [cut_some, List.map_cons, List.map_nil, get_cons, Nk.get_nil, Nat.reduceEqDiff, ↓reduceIte, DV.cut, DV.inB, List.take_nil, reduceCtorEq])
end Go.Proofs.YtfaailjhioobhaaGreat

/- Which images are small. -/
set_option linter.all false
set_option maxRecDepth 20000
namespace Go.Proofs.YtfaailjhioobhaaGreat
open Go.Nk

def fewP (p : Prt) : Bool := decide (p.name.length ≤ 200)
def fewS (s : Slt) : Bool := decide (s.path.length ≤ 300) && decide (s.ini.length ≤ 300)
def fewF (x : Img) : Bool := smallF x.en && decide (x.ins.length + x.outs.length ≤ 50) && decide (x.slots.length ≤ 150) && decide (x.loc.length ≤ 1100) && decide (x.code.length ≤ 800) && (x.ins ++ x.outs).all fewP && x.slots.all fewS
def okLen (x : Img) : Prop := x.ins.length ≤ 1000000000000000000 ∧ x.outs.length ≤ 1000000000000000000
noncomputable def s_Few : List DV → Prop × DV := spec1 eImg fun x => (okLen x, .bool (fewF x))
theorem s_Few_at (x : Img) : s_Few [.agg (cImg x)] = (okLen x, .bool (fewF x)) := spec1_at inj_Img _ x
theorem prt_rows (l : List Prt) : ∀ e ∈ l.map cPrt, e.length = 4 := by simp
theorem ok_noriaref33_Few : OkP Tryz.prog 7 s_Few := by
  refine OkP.mk1 (ps := [(17, s_Small)]) (hs := []) ⟨ok_Small, trivial⟩ trivial m_noriaref33_Few fun x h => ?_
  try dsimp only at h
  obtain ⟨h1, h2⟩ := h
  by_cases q : smallF x.en = true ∧ x.ins.length + x.outs.length ≤ 50 ∧ x.slots.length ≤ 150 ∧ x.loc.length ≤ 1100 ∧ x.code.length ≤ 800
  rotate_left
  · have hr : fewF x = false := by
      rw [Bool.eq_false_iff]
      intro hh
      simp only [fewF, Bool.and_eq_true, decide_eq_true_eq] at hh
      exact q ⟨hh.1.1.1.1.1.1, hh.1.1.1.1.1.2, hh.1.1.1.1.2, hh.1.1.1.2, hh.1.1.2⟩
    (have hcondQ := Bool.and_self; refine Todo.of ?_); (repeat' (first | ((with_reducible refine Todo.to ?_); (repeat (first | (simp only [↓rP, rT, rU, eA, dvalX, DOp.kind, dval, dBin, dInt, dUn, dLoad, cellsAt, retV, DR.val, fzT, fzV, fz1, DV.immB, dCallP, viewVs, viewV, view1, noMemV, noMem, elemsOf, dAppend, fzLL, cellsOf, lenMax, Nat.reduceEqDiff, Nat.reduceAdd, ↓reduceIte, reduceCtorEq, Nat.reduceLT, forall_const, d_noriaref33_Few, s_Small_at, eImg, ils_len, hr , hcondQ]) | ((simp (disch := omega) only [i64_id]))))) | ((with_reducible refine And.intro ?_ ?_); · (simp; omega)) | (((first | ((with_reducible refine dwp_condI (t := ?_) ?_ (fun hcQ => ?_) (fun hcQ => ?_)); rotate_left; · (rfl)) | ((with_reducible refine dops_guardI (t := ?_) ?_ (fun hcQ => ?_) (fun hcQ => ?_)); rotate_left; · (rfl))) <;> (have hn := hcQ; have hcondQ := hcQ) <;> (try simp only [decide_eq_true_eq, decide_eq_false_iff_not, Bool.not_eq_true', Bool.not_eq_false'] at hn) <;> (refine Todo.of ?_))) | fail))
    all_goals (exfalso; apply q; refine ⟨by grind, by omega, by omega, by omega, by omega⟩)
  obtain ⟨q0, q1, q2, q3, q4⟩ := q
  have hr : fewF x = ((x.ins ++ x.outs).all fewP && x.slots.all fewS) := by simp [fewF, q0, q1, q2, q3, q4]
  have r1 := prt_rows x.ins
  have r2 := prt_rows x.outs
  (have hcondQ := Bool.and_self; refine Todo.of ?_); (repeat' (first | ((with_reducible refine Todo.to ?_); (repeat (first | (simp only [↓rP, rT, rU, eA, dvalX, DOp.kind, dval, dBin, dInt, dUn, dLoad, cellsAt, DV.immB, dCallP, viewVs, viewV, view1, noMemV, noMem, elemsOf, dAppend, fzLL, cellsOf, lenMax, Nat.reduceEqDiff, Nat.reduceAdd, ↓reduceIte, reduceCtorEq, Nat.reduceLT, forall_const, d_noriaref33_Few, s_Small_at, eImg, ils_len, q0, hcondQ]) | ((simp (disch := omega) only [i64_id]))))) | ((with_reducible refine And.intro ?_ ?_); · (simp; omega)) | (((first | ((with_reducible refine dwp_condI (t := ?_) ?_ (fun hcQ => ?_) (fun hcQ => ?_)); rotate_left; · (rfl)) | ((with_reducible refine dops_guardI (t := ?_) ?_ (fun hcQ => ?_) (fun hcQ => ?_)); rotate_left; · (rfl))) <;> (have hn := hcQ; have hcondQ := hcQ) <;> (try simp only [decide_eq_true_eq, decide_eq_false_iff_not] at hn) <;> (try (exfalso; omega)) <;> (refine Todo.of ?_))) | fail))
  refine dwp_each (x.ins ++ x.outs) (fun k (_ : Unit) => ⟨[(1, .ref (cImg x)), (3, .own 0 (x.ins.length + x.outs.length) 0 (x.ins.length + x.outs.length)), (4, .int .i64 k)], [⟨.imm, 4, (x.ins ++ x.outs).map cPrt⟩]⟩) (fun k r _ => k ≤ 100 ∧ r.all fewP = (x.ins ++ x.outs).all fewP) () (Nat.zero_le _) (by simp only [cut_some, List.map_cons, List.map_nil, get_cons, Nk.get_nil, Nat.reduceEqDiff, ↓reduceIte, DV.cut, DV.inB, DObj.cut, List.take_nil, reduceCtorEq, Nat.zero_lt_one, decide_true, List.take_succ_cons, List.map_append] <;> rfl) ⟨by omega, rfl⟩ (fun k y r _ d hy hd hr2 => ?_) (fun k _ e hr2 => ?_)
  · obtain ⟨hk, hr2⟩ := hr2
    simp only [List.all_cons] at hr2
    rw [List.length_append] at d
    (have hcondQ := Bool.and_self; refine Todo.of ?_); (repeat' (first | ((with_reducible refine Todo.to ?_); (repeat (first | (simp only [↓rP, rT, rU, dvalX, dval, dBin, dInt, dLoad, cellsAt, retV, DR.val, fzT, fzV, fz1, DV.immB, alive, Nat.reduceEqDiff, Nat.reduceAdd, ↓reduceIte, reduceCtorEq, Nat.reduceLeDiff, Nat.reduceLT, d, map_getD cPrt hy, hcondQ]) | ((simp (disch := omega) only [i64_id]))))) | ((with_reducible refine And.intro ?_ ?_); · omega) | (((((with_reducible refine dwp_condI (t := ?_) ?_ (fun hcQ => ?_) (fun hcQ => ?_)); rotate_left; · (rfl))) <;> (have hn := hcQ; have hcondQ := hcQ) <;> (try simp only [decide_eq_true_eq, decide_eq_false_iff_not] at hn) <;> (refine Todo.of ?_))) | fail))
    all_goals first
      | exact ⟨(), by simp only [cut_some, List.map_cons, List.map_nil, get_cons, Nk.get_nil, Nat.reduceEqDiff, ↓reduceIte, DV.cut, DV.inB, DObj.cut, List.take_nil, reduceCtorEq, Nat.zero_lt_one, decide_true, List.take_succ_cons, Int.natCast_add, Int.natCast_one, List.map_append] <;> rfl, by omega, by grind [fewP]⟩
      | grind [fewP]
  obtain ⟨hk, hr2⟩ := hr2
  simp only [List.all_nil] at hr2
  rw [← hr2, Bool.true_and] at hr
  rw [List.length_append] at e
  (have hcondQ := Bool.and_self; refine Todo.of ?_); (repeat' (first | ((with_reducible refine Todo.to ?_); (repeat (simp only [↓rP, rT, rU, dvalX, dval, dBin, dInt, alive, Nat.reduceEqDiff, ↓reduceIte, reduceCtorEq, e ])))))
  refine dwp_each x.slots (fun k (_ : Unit) => ⟨[(1, .ref (cImg x)), (5, .int .i64 k)], [⟨.imm, 4, (x.ins ++ x.outs).map cPrt⟩]⟩) (fun k r _ => r.all fewS = x.slots.all fewS) () (Nat.zero_le _) (by simp only [cut_some, List.map_cons, List.map_nil, get_cons, Nk.get_nil, Nat.reduceEqDiff, ↓reduceIte, DV.cut, DV.inB, DObj.cut, List.take_nil, reduceCtorEq, List.take_succ_cons, Int.natCast_add, List.map_append] <;> rfl) rfl (fun k y r _ d hy hd hr3 => ?_) (fun k _ e hr3 => ?_)
  · simp only [List.all_cons] at hr3
    (have hcondQ := Bool.and_self; refine Todo.of ?_); (repeat' (first | ((with_reducible refine Todo.to ?_); (repeat (first | (simp only [↓rP, rT, rU, dvalX, dval, dBin, dInt, dLoad, cellsAt, retV, DR.val, fzT, fzV, fz1, DV.immB, Nat.reduceEqDiff, Nat.reduceAdd, ↓reduceIte, Nat.reduceLT, ils_len, d, map_getD cSlt hy , hcondQ]) | ((simp (disch := omega) only [i64_id]))))) | ((with_reducible refine And.intro ?_ ?_); · omega) | (((first | ((with_reducible refine dwp_condI (t := ?_) ?_ (fun hcQ => ?_) (fun hcQ => ?_)); rotate_left; · (rfl)) | ((with_reducible refine dops_guardI (t := ?_) ?_ (fun hcQ => ?_) (fun hcQ => ?_)); rotate_left; · (rfl))) <;> (have hn := hcQ; have hcondQ := hcQ) <;> (try simp only [decide_eq_true_eq, decide_eq_false_iff_not] at hn) <;> (refine Todo.of ?_))) | fail))
    all_goals first
      | exact ⟨(), by simp only [cut_some, List.map_cons, List.map_nil, get_cons, Nk.get_nil, Nat.reduceEqDiff, ↓reduceIte, DV.cut, DV.inB, DObj.cut, List.take_nil, reduceCtorEq, List.take_succ_cons, Int.natCast_add, Int.natCast_one, List.map_append] <;> rfl, by grind [fewS]⟩
      | grind [fewS]
  · simp only [List.all_nil] at hr3
    (have hcondQ := Bool.and_self; refine Todo.of ?_); (repeat' (first | ((with_reducible refine Todo.to ?_); (repeat (simp only [↓rP, rT, rU, dvalX, dval, dBin, dInt, dLoad, cellsAt, retV, DR.val, fzT, fzV, fz1, DV.immB, Nat.reduceEqDiff, Nat.reduceAdd, ↓reduceIte, Nat.reduceLT, e ])))))
    grind
end Go.Proofs.YtfaailjhioobhaaGreat

/- Numbers and rows of numbers that are the same; the kinds of a type's cells. -/
set_option linter.all false
set_option maxRecDepth 20000
namespace Go.Proofs.YtfaailjhioobhaaGreat
open Go.Nk


noncomputable def s_Vals : List DV → Prop × DV := specE eIls (fun l => l.length ≤ 1000000000)
theorem s_Vals_same (l : List Int) (h : l.length ≤ 1000000000) : s_Vals [.sl (ils l), .sl (ils l)] = (True, .bool true) := specE_at eIls h
theorem ok_noriaref01_Vals : OkP Tryz.prog 127 s_Vals := by
  refine OkP.mkE (ps := []) (hs := []) trivial trivial m_noriaref01_Vals fun l h => ?_
  
  (have hcondQ := Bool.and_self; refine Todo.of ?_); (repeat' (first | ((with_reducible refine Todo.to ?_); (repeat (simp only [↓rP, rT, dvalX, dval, dBin, dInt, Nat.reduceEqDiff, ↓reduceIte, reduceCtorEq, d_noriaref01_Vals, eIls, ils_len ])))))
  refine dwp_each l (fun k (_ : Unit) => ⟨[(0, .sl (ils l)), (1, .sl (ils l)), (5, .int .i64 k)], []⟩) (fun _ _ _ => True) () (Nat.zero_le _) (by simp only [cut_some, List.map_cons, List.map_nil, get_cons, Nk.get_nil, Nat.reduceEqDiff, ↓reduceIte, Nat.succ_ne_self, DV.cut, DV.inB, List.take_nil, reduceCtorEq] <;> rfl) trivial (fun k x r _ d hx _ _ => ?_) (fun k _ e _ => ?_)
  · (have hcondQ := Bool.and_self; refine Todo.of ?_); (repeat' (first | ((with_reducible refine Todo.to ?_); (repeat (first | (simp only [↓rP, rT, rU, dvalX, dval, dBin, dInt, dLoad, cellsAt, Nat.reduceEqDiff, ↓reduceIte, reduceCtorEq, ils_len, d, ils_at hx ]) | ((simp (disch := omega) only [i64_id]))))) | ((with_reducible refine And.intro ?_ ?_); · omega) | fail))
    exact ⟨(), by simp only [cut_some, List.map_cons, List.map_nil, get_cons, Nk.get_nil, Nat.reduceEqDiff, ↓reduceIte, Nat.succ_ne_self, DV.cut, DV.inB, List.take_nil, reduceCtorEq, Int.natCast_add, Int.natCast_one] <;> rfl⟩
  · (have hcondQ := Bool.and_self; refine Todo.of ?_); (repeat' (first | ((with_reducible refine Todo.to ?_); (repeat (simp only [↓rP, rT, rU, dvalX, dval, dBin, dInt, retV, DR.val, fzT, fzV, fz1, DV.immB, Nat.reduceEqDiff, ↓reduceIte, reduceCtorEq, ils_len, e ])))))

end Go.Proofs.YtfaailjhioobhaaGreat

