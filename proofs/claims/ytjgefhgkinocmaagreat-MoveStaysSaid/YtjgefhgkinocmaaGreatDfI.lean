/- Which slots, shapes and images may be, by the document. -/
import Derived.Test.YtjgefhgkinocmaaGreatDfF
set_option linter.all false
set_option maxRecDepth 20000
namespace Go.Proofs.YtjgefhgkinocmaaGreat
open Go.Nk

theorem slice_slts {hp : List DObj} {l : List Slt} {b : Int} (h2 : 0 ≤ b) (h3 : b ≤ l.length) : dSlice hp 6 (.sl (l.map cSlt)) none (some (.int .i64 b)) none = (True, .sl ((l.take b.toNat).map cSlt)) := by
  have hz : ∀ e ∈ l.map cSlt, e.length = 6 := by simp
  simp only [dSlice, dBound, List.length_map, Option.isSome_none, Prod.mk.injEq]
  refine ⟨eq_true ⟨hz, trivial, trivial, trivial, by simp, Int.le_refl _, h2, Int.le_refl _, h3⟩, ?_⟩
  simp
def slotOk (l : List En) (s : List Slt) (k : Nat) (x : Slt) : Bool := pathF x.path && rightV l x.ty x.ini && x.at_ == sumC (s.take k) && fndI s x.path == k
def slotsR (l : List En) (s : List Slt) : List Slt → Nat → Bool
  | [], _ => true
  | x :: r, k => slotOk l s k x && slotsR l s r (k + 1)
def rightS (l : List En) (s : List Slt) : Bool := decide (s.length ≤ 120) && decide (sumC s ≤ 1000) && slotsR l s s 0
noncomputable def s_RightS : List DV → Prop × DV := spec2 eEns eSlts fun l s => (s.length ≤ 1000000 ∧ (∀ x ∈ s, x.path.length ≤ 1000000 ∧ x.ini.length ≤ 1000000), .bool (rightS l s))
theorem s_RightS_at (l : List En) (s : List Slt) : s_RightS [.sl (l.map cEn), .sl (s.map cSlt)] = (s.length ≤ 1000000 ∧ (∀ x ∈ s, x.path.length ≤ 1000000 ∧ x.ini.length ≤ 1000000), .bool (rightS l s)) := spec2_at inj_Ens inj_Slts _ l s
theorem ok_noriaref27_Right : OkP Tryz.prog 34 s_RightS := by
  refine OkP.mk2 (ps := [(18, s_SumC), (61, s_Path), (19, s_RightV), (29, s_Find)]) (hs := []) ⟨ok_refSumC, ok_noriaref04_Path, ok_refRightV, ok_noriaref27_Find, trivial⟩ trivial m_noriaref27_Right fun l s h => ?_
  try dsimp only at h
  obtain ⟨h1, h2⟩ := h
  have e1 := s_SumC_at s
  rw [eq_true (show s.length ≤ 1000000000 by omega)] at e1
  by_cases q : s.length ≤ 120 ∧ sumC s ≤ 1000
  rotate_left
  · have hr : rightS l s = false := by
      simp only [rightS]; grind
    (have hcondQ := Bool.and_self; refine Todo.of ?_); (repeat' (first | ((with_reducible refine Todo.to ?_); (repeat (simp only [↓rP, rT, rU, eL, dvalX, dval, dBin, dInt, retV, DR.val, fzT, fzV, fz1, DV.immB, dCallP, viewVs, viewV, view1, noMemV, noMem, Nat.reduceEqDiff, ↓reduceIte, d_noriaref27_Right, eEns, eSlts, e1, hr , hcondQ]))) | (((first | ((with_reducible refine dwp_condI (t := ?_) ?_ (fun hcQ => ?_) (fun hcQ => ?_)); rotate_left; · (rfl)) | ((with_reducible refine dops_guardI (t := ?_) ?_ (fun hcQ => ?_) (fun hcQ => ?_)); rotate_left; · (rfl))) <;> (have hn := hcQ; have hcondQ := hcQ) <;> (try simp only [decide_eq_true_eq, decide_eq_false_iff_not] at hn) <;> (try (exfalso; omega)) <;> (refine Todo.of ?_))) | fail))
    all_goals (exfalso; apply q; exact ⟨by omega, by omega⟩)
  obtain ⟨q1, q2⟩ := q
  have hr : rightS l s = slotsR l s s 0 := by simp [rightS, q1, q2]
  rw [hr]
  (have hcondQ := Bool.and_self; refine Todo.of ?_); (repeat' (first | ((with_reducible refine Todo.to ?_); (repeat (simp only [↓rP, rT, rU, eL, dvalX, dval, dBin, dInt, DV.immB, dCallP, viewVs, viewV, view1, noMemV, noMem, Nat.reduceEqDiff, ↓reduceIte, d_noriaref27_Right, eEns, eSlts, e1 , hcondQ]))) | (((first | ((with_reducible refine dwp_condI (t := ?_) ?_ (fun hcQ => ?_) (fun hcQ => ?_)); rotate_left; · (rfl)) | ((with_reducible refine dops_guardI (t := ?_) ?_ (fun hcQ => ?_) (fun hcQ => ?_)); rotate_left; · (rfl))) <;> (have hn := hcQ; have hcondQ := hcQ) <;> (try simp only [decide_eq_true_eq, decide_eq_false_iff_not] at hn) <;> (try (exfalso; omega)) <;> (refine Todo.of ?_))) | fail))
  refine dwp_each s (fun k (_ : Unit) => ⟨[(0, .sl (l.map cEn)), (1, .sl (s.map cSlt)), (5, .int .i64 k)], []⟩) (fun k r _ => slotsR l s r k = slotsR l s s 0) () (Nat.zero_le _) (by simp only [cut_some, List.map_cons, List.map_nil, get_cons, Nk.get_nil, Nat.reduceEqDiff, ↓reduceIte, Nat.succ_ne_self, DV.cut, DV.inB, List.take_nil, reduceCtorEq] <;> rfl) rfl (fun k x r _ d hx hd hr2 => ?_) (fun k _ e hr2 => ?_)
  · obtain ⟨m1, m2⟩ := h2 x (mem_drop_of hd)
    have e2 := s_Path_at x.path
    rw [eq_true m1] at e2
    have e3 := s_RightV_at l x.ty x.ini
    rw [eq_true (show x.ini.length ≤ 1000000000 by omega)] at e3
    have e4 := s_SumC_at (s.take k)
    rw [eq_true (show (s.take k).length ≤ 1000000000 by simp; omega)] at e4
    have e5 := s_Find_at s x.path
    rw [eq_true h1] at e5
    have e6 := @slice_slts [] s (k : Int) (by omega) (by omega)
    simp only [Int.toNat_natCast] at e6
    simp only [slotsR] at hr2
    simp only [cTy] at e3
    (have hcondQ := Bool.and_self; refine Todo.of ?_); (repeat' (first | ((with_reducible refine Todo.to ?_); (repeat (first | (simp only [↓rP, rT, rU, dvalX, dval, dBin, dInt, dUn, dLoad, cellsAt, retV, DR.val, fzT, fzV, fz1, DV.immB, dCallP, viewVs, viewV, view1, viewL, noMemV, noMem, Nat.reduceEqDiff, Nat.reduceAdd, ↓reduceIte, reduceCtorEq, Nat.reduceLeDiff, Nat.reduceLT, d, map_getD cSlt hx, e2, e3, e4, e5, e6 , hcondQ]) | ((simp (disch := omega) only [i64_id]))))) | ((with_reducible refine And.intro ?_ ?_); · omega) | (((first | ((with_reducible refine dwp_condI (t := ?_) ?_ (fun hcQ => ?_) (fun hcQ => ?_)); rotate_left; · (rfl)) | ((with_reducible refine dops_guardI (t := ?_) ?_ (fun hcQ => ?_) (fun hcQ => ?_)); rotate_left; · (rfl))) <;> (have hn := hcQ; have hcondQ := hcQ) <;> (try simp only [bne_iff_ne, ne_eq, bne_eq_false_iff_eq, Bool.not_eq_true', Bool.not_eq_false'] at hn) <;> (refine Todo.of ?_))) | fail))
    all_goals first
      | exact ⟨(), by simp only [cut_some, List.map_cons, List.map_nil, get_cons, Nk.get_nil, Nat.reduceEqDiff, ↓reduceIte, Nat.succ_ne_self, DV.cut, DV.inB, List.take_nil, reduceCtorEq, Int.natCast_add, Int.natCast_one] <;> rfl, by grind [slotOk]⟩
      | grind [slotOk]
      | trace_state
  · simp only [slotsR] at hr2
    (have hcondQ := Bool.and_self; refine Todo.of ?_); (repeat' (first | ((with_reducible refine Todo.to ?_); (repeat (simp only [↓rP, rT, rU, dvalX, dval, dBin, dInt, retV, DR.val, fzT, fzV, fz1, DV.immB, Nat.reduceEqDiff, ↓reduceIte, reduceCtorEq, e, ← hr2 ])))))

/-! Shapes. -/
def kindOkF (s : ShpF) (k : Int) : Bool := k == 1 || k == 2 || (decide (3 ≤ k) && decide (k < 3 + s.ctors.length))
noncomputable def s_KindOk : List DV → Prop × DV := spec2 eShpF eI fun s k => (s.ctors.length ≤ 1000000, .bool (kindOkF s k))
theorem s_KindOk_at (s : ShpF) (k : Int) : s_KindOk [.agg (cShp s), .int .i64 k] = (s.ctors.length ≤ 1000000, .bool (kindOkF s k)) := spec2_at inj_ShpF inj_I _ s k
theorem ok_noriaref29_Kind : OkP Tryz.prog 64 s_KindOk := by
  refine OkP.mk2 (ps := []) (hs := []) trivial trivial m_noriaref29_Kind fun s k h => ?_
  try dsimp only at h
  have h : s.ctors.length ≤ 1000000 := h
  (have hcondQ := Bool.and_self; refine Todo.of ?_); (repeat' (first | ((with_reducible refine Todo.to ?_); (repeat (first | (simp only [↓rP, rT, rU, eI, eA, dvalX, dval, dBin, dInt, dLoad, cellsAt, retV, DR.val, fzT, fzV, fz1, DV.immB, DV.one, alive, cellsOf, Nat.reduceEqDiff, Nat.reduceAdd, ↓reduceIte, reduceCtorEq, Nat.reduceLT, forall_const, d_noriaref29_Kind, eShpF, ils_len, hcondQ]) | ((simp (disch := omega) only [i64_id]))))) | (((((with_reducible refine dops_guardI (t := ?_) ?_ (fun hcQ => ?_) (fun hcQ => ?_)); rotate_left; · (rfl))) <;> (have hn := hcQ; have hcondQ := hcQ) <;> (try simp only [decide_eq_true_eq, decide_eq_false_iff_not, beq_iff_eq, ne_eq, beq_eq_false_iff_ne] at hn) <;> (refine Todo.of ?_))) | fail))
  all_goals grind [kindOkF]
def shapeOk (s : ShpF) : Bool := decide (s.ctors.length ≤ 4) && decide (s.kinds.length ≤ 1000) && decide (0 ≤ s.lo) && decide (s.hi ≤ s.kinds.length) && decide (s.lo ≤ s.hi) && s.ctors.all (fun n => decide (1 ≤ n)) && s.kinds.all (kindOkF s)
noncomputable def s_ShapeOk : List DV → Prop × DV := spec1 eShpF fun s => (True, .bool (shapeOk s))
theorem s_ShapeOk_at (s : ShpF) : s_ShapeOk [.agg (cShp s)] = (True, .bool (shapeOk s)) := spec1_at inj_ShpF _ s
theorem ok_noriaref29_Shape : OkP Tryz.prog 38 s_ShapeOk := by
  refine OkP.mk1 (ps := [(64, s_KindOk)]) (hs := []) ⟨ok_noriaref29_Kind, trivial⟩ trivial m_noriaref29_Shape fun s _ => ?_
  by_cases q : s.ctors.length ≤ 4 ∧ s.kinds.length ≤ 1000 ∧ 0 ≤ s.lo ∧ s.hi ≤ s.kinds.length ∧ s.lo ≤ s.hi
  rotate_left
  · have hr : shapeOk s = false := by
      simp only [shapeOk]; grind
    (have hcondQ := Bool.and_self; refine Todo.of ?_); (repeat' (first | ((with_reducible refine Todo.to ?_); (repeat (simp only [↓rP, rT, rU, eA, dvalX, dval, dBin, dInt, dLoad, cellsAt, retV, DR.val, fzT, fzV, fz1, DV.immB, DV.one, alive, cellsOf, Nat.reduceEqDiff, Nat.reduceAdd, ↓reduceIte, reduceCtorEq, Nat.reduceLT, forall_const, d_noriaref29_Shape, eShpF, ils_len, hr , hcondQ]))) | (((first | ((with_reducible refine dwp_condI (t := ?_) ?_ (fun hcQ => ?_) (fun hcQ => ?_)); rotate_left; · (rfl)) | ((with_reducible refine dops_guardI (t := ?_) ?_ (fun hcQ => ?_) (fun hcQ => ?_)); rotate_left; · (rfl))) <;> (have hn := hcQ; have hcondQ := hcQ) <;> (try simp only [decide_eq_true_eq, decide_eq_false_iff_not] at hn) <;> (try (exfalso; omega)) <;> (refine Todo.of ?_))) | fail))
    all_goals (exfalso; apply q; exact ⟨by omega, by omega, by omega, by omega, by omega⟩)
  obtain ⟨q1, q2, q3, q4, q5⟩ := q
  have hr : shapeOk s = (s.ctors.all (fun n => decide (1 ≤ n)) && s.kinds.all (kindOkF s)) := by simp [shapeOk, q1, q2, q3, q4, q5]
  rw [hr]
  clear hr
  (have hcondQ := Bool.and_self; refine Todo.of ?_); (repeat' (first | ((with_reducible refine Todo.to ?_); (repeat (simp only [↓rP, rT, rU, eA, dvalX, dval, dBin, dInt, dLoad, cellsAt, DV.one, alive, cellsOf, Nat.reduceEqDiff, Nat.reduceAdd, ↓reduceIte, reduceCtorEq, Nat.reduceLT, forall_const, d_noriaref29_Shape, eShpF, ils_len, hcondQ]))) | (((first | ((with_reducible refine dwp_condI (t := ?_) ?_ (fun hcQ => ?_) (fun hcQ => ?_)); rotate_left; · (rfl)) | ((with_reducible refine dops_guardI (t := ?_) ?_ (fun hcQ => ?_) (fun hcQ => ?_)); rotate_left; · (rfl))) <;> (have hn := hcQ; have hcondQ := hcQ) <;> (try simp only [decide_eq_true_eq, decide_eq_false_iff_not] at hn) <;> (try (exfalso; omega)) <;> (refine Todo.of ?_))) | fail))
  refine dwp_each s.ctors (fun k (_ : Unit) => ⟨[(1, .ptr 0 1 0 0), (3, .int .i64 k)], [⟨.loc, 4, [cShp s]⟩]⟩) (fun k r _ => r.all (fun n => decide (1 ≤ n)) = s.ctors.all (fun n => decide (1 ≤ n))) () (Nat.zero_le _) (by simp only [cut_some, List.map_cons, List.map_nil, get_cons, Nk.get_nil, Nat.reduceEqDiff, ↓reduceIte, DV.cut, DV.inB, DObj.cut, List.take_nil, Nat.zero_lt_one, decide_true, List.take_succ_cons] <;> rfl) rfl (fun k x r _ d hx hd hr => ?_) (fun k _ e hr => ?_)
  · simp only [List.all_cons] at hr
    (have hcondQ := Bool.and_self; refine Todo.of ?_); (repeat' (first | ((with_reducible refine Todo.to ?_); (repeat (first | (simp only [↓rP, rT, rU, dvalX, dval, dBin, dInt, dLoad, cellsAt, retV, DR.val, fzT, fzV, fz1, DV.immB, alive, Nat.reduceEqDiff, Nat.reduceAdd, ↓reduceIte, reduceCtorEq, Nat.reduceLT, ils_len, d, ils_at hx , hcondQ]) | ((simp (disch := omega) only [i64_id]))))) | ((with_reducible refine And.intro ?_ ?_); · omega) | (((((with_reducible refine dwp_condI (t := ?_) ?_ (fun hcQ => ?_) (fun hcQ => ?_)); rotate_left; · (rfl))) <;> (have hn := hcQ; have hcondQ := hcQ) <;> (try simp only [decide_eq_true_eq, decide_eq_false_iff_not] at hn) <;> (refine Todo.of ?_))) | fail))
    all_goals first
      | exact ⟨(), by simp only [cut_some, List.map_cons, List.map_nil, get_cons, Nk.get_nil, Nat.reduceEqDiff, ↓reduceIte, DV.cut, DV.inB, DObj.cut, List.take_nil, Nat.zero_lt_one, decide_true, List.take_succ_cons, Int.natCast_add, Int.natCast_one] <;> rfl, by grind⟩
      | grind
      | trace_state
  simp only [List.all_nil] at hr
  rw [← hr, Bool.true_and]
  (have hcondQ := Bool.and_self; refine Todo.of ?_); (repeat' (first | ((with_reducible refine Todo.to ?_); (repeat (simp only [↓rP, rT, rU, dvalX, dval, dBin, dInt, dLoad, cellsAt, alive, Nat.reduceEqDiff, Nat.reduceAdd, ↓reduceIte, reduceCtorEq, Nat.reduceLT, ils_len, e ])))))
  refine dwp_each s.kinds (fun k (_ : Unit) => ⟨[(1, .ptr 0 1 0 0), (4, .int .i64 k)], [⟨.loc, 4, [cShp s]⟩]⟩) (fun k r _ => r.all (kindOkF s) = s.kinds.all (kindOkF s)) () (Nat.zero_le _) (by simp only [cut_some, List.map_cons, List.map_nil, get_cons, Nk.get_nil, Nat.reduceEqDiff, ↓reduceIte, DV.cut, DV.inB, DObj.cut, List.take_nil, Nat.zero_lt_one, decide_true, List.take_succ_cons] <;> rfl) rfl (fun k x r _ d hx hd hr => ?_) (fun k _ e hr => ?_)
  · simp only [List.all_cons] at hr
    have e1 := s_KindOk_at s x
    rw [eq_true (show s.ctors.length ≤ 1000000 by omega)] at e1
    simp only [cShp] at e1
    (have hcondQ := Bool.and_self; refine Todo.of ?_); (repeat' (first | ((with_reducible refine Todo.to ?_); (repeat (first | (simp only [↓rP, rT, rU, dvalX, dval, dBin, dInt, dUn, dLoad, cellsAt, retV, DR.val, fzT, fzV, fz1, DV.immB, dCallP, viewVs, viewV, view1, viewL, noMemV, noMem, alive, Nat.reduceEqDiff, Nat.reduceAdd, ↓reduceIte, reduceCtorEq, Nat.reduceLeDiff, Nat.reduceLT, ils_len, d, ils_at hx, e1 , hcondQ]) | ((simp (disch := omega) only [i64_id]))))) | ((with_reducible refine And.intro ?_ ?_); · omega) | (((((with_reducible refine dwp_condI (t := ?_) ?_ (fun hcQ => ?_) (fun hcQ => ?_)); rotate_left; · (rfl))) <;> (have hn := hcQ; have hcondQ := hcQ) <;> (try simp only [Bool.not_eq_true', Bool.not_eq_false'] at hn) <;> (refine Todo.of ?_))) | fail))
    all_goals first
      | exact ⟨(), by simp only [cut_some, List.map_cons, List.map_nil, get_cons, Nk.get_nil, Nat.reduceEqDiff, ↓reduceIte, DV.cut, DV.inB, DObj.cut, List.take_nil, Nat.zero_lt_one, decide_true, List.take_succ_cons, Int.natCast_add, Int.natCast_one] <;> rfl, by grind⟩
      | grind
      | trace_state
  · simp only [List.all_nil] at hr
    (have hcondQ := Bool.and_self; refine Todo.of ?_); (repeat' (first | ((with_reducible refine Todo.to ?_); (repeat (simp only [↓rP, rT, rU, dvalX, dval, dBin, dInt, dLoad, cellsAt, retV, DR.val, fzT, fzV, fz1, DV.immB, alive, Nat.reduceEqDiff, Nat.reduceAdd, ↓reduceIte, reduceCtorEq, Nat.reduceLT, ils_len, e, ← hr ])))))
end Go.Proofs.YtjgefhgkinocmaaGreat

/- Which images may be; of one that may be to itself all paths are kept. -/
set_option linter.all false
set_option maxRecDepth 20000
namespace Go.Proofs.YtjgefhgkinocmaaGreat
open Go.Nk

def portOk (l : List En) (p : Prt) : Bool := lowF p.name && rightTy l p.ty
def pnames (l : List Prt) : List (List UInt8) := l.map (·.name)
def formF (x : Img) : Bool := enumsF x.en == 0 && decide (x.ins.length ≤ 6) && decide (1 ≤ x.outs.length) && decide (x.outs.length ≤ 6) && rightS x.en x.slots && (x.ins ++ x.outs).all (portOk x.en) && onceF (pnames (x.ins ++ x.outs)) && shapeOk (shapeF x)
def okForm (x : Img) : Prop := okShape x ∧ ∀ s ∈ x.slots, s.path.length ≤ 1000000 ∧ s.ini.length ≤ 1000000
noncomputable def s_Form : List DV → Prop × DV := spec1 eImg fun x => (okForm x, .bool (formF x))
theorem s_Form_at (x : Img) : s_Form [.agg (cImg x)] = (okForm x, .bool (formF x)) := spec1_at inj_Img _ x
theorem ok_noriaref34_Form : OkP Tryz.prog 15 s_Form := by
  refine OkP.mk1 (ps := [(33, s_EnumsF), (34, s_RightS), (35, s_Low), (36, s_RightTy), (37, s_Once), (39, s_Shape), (38, s_ShapeOk)]) (hs := []) ⟨ok_noriaref05_Enums, ok_noriaref27_Right, ok_noriaref04_Low, ok_refRightTy, ok_noriaref04_Once, ok_noriaref32_Shape, ok_noriaref29_Shape, trivial⟩ trivial m_noriaref34_Form fun x h => ?_
  try dsimp only at h
  obtain ⟨h1, h2⟩ := h
  have h1' := h1
  obtain ⟨l1, l2, l3, l4, l5⟩ := h1
  have e1 := s_EnumsF_at x.en
  have e2 := s_RightS_at x.en x.slots
  rw [eq_true (show x.slots.length ≤ 1000000 ∧ (∀ s ∈ x.slots, s.path.length ≤ 1000000 ∧ s.ini.length ≤ 1000000) from ⟨l2, h2⟩)] at e2
  by_cases q : enumsF x.en = 0 ∧ x.ins.length ≤ 6 ∧ 1 ≤ x.outs.length ∧ x.outs.length ≤ 6 ∧ rightS x.en x.slots = true
  rotate_left
  · have hr : formF x = false := by
      simp only [formF]; grind
    (have hcondQ := Bool.and_self; refine Todo.of ?_); (repeat' (first | ((with_reducible refine Todo.to ?_); (repeat (simp only [↓rP, rT, rU, eA, dvalX, DOp.kind, dval, dBin, dInt, dUn, dLoad, cellsAt, retV, DR.val, fzT, fzV, fz1, DV.immB, dCallP, viewVs, viewV, view1, noMemV, noMem, elemsOf, dAppend, fzLL, cellsOf, lenMax, Nat.reduceEqDiff, Nat.reduceAdd, ↓reduceIte, reduceCtorEq, Nat.reduceLT, forall_const, d_noriaref34_Form, eImg, e1, e2, hr , hcondQ]))) | ((with_reducible refine And.intro ?_ ?_); · (simp; omega)) | (((first | ((with_reducible refine dwp_condI (t := ?_) ?_ (fun hcQ => ?_) (fun hcQ => ?_)); rotate_left; · (rfl)) | ((with_reducible refine dops_guardI (t := ?_) ?_ (fun hcQ => ?_) (fun hcQ => ?_)); rotate_left; · (rfl))) <;> (have hn := hcQ; have hcondQ := hcQ) <;> (try simp only [decide_eq_true_eq, decide_eq_false_iff_not, bne_iff_ne, ne_eq, bne_eq_false_iff_eq, Bool.not_eq_true', Bool.not_eq_false'] at hn) <;> (refine Todo.of ?_))) | fail))
    all_goals (exfalso; apply q; refine ⟨?_, by omega, by omega, by omega, ?_⟩ <;> grind)
  obtain ⟨q1, q2, q3, q4, q5⟩ := q
  have hr : formF x = ((x.ins ++ x.outs).all (portOk x.en) && (onceF (pnames (x.ins ++ x.outs)) && shapeOk (shapeF x))) := by simp [formF, q1, q2, q3, q4, q5, Bool.and_assoc]
  rw [hr]
  clear hr
  have r1 := prt_rows x.ins
  have r2 := prt_rows x.outs
  rw [q1] at e1
  rw [q5] at e2
  (have hcondQ := Bool.and_self; refine Todo.of ?_); (repeat' (first | ((with_reducible refine Todo.to ?_); (repeat (simp only [↓rP, rT, rU, eA, dvalX, DOp.kind, dval, dBin, dInt, dUn, dLoad, cellsAt, DV.immB, dCallP, viewVs, viewV, view1, noMemV, noMem, elemsOf, dAppend, fzLL, cellsOf, lenMax, Nat.reduceEqDiff, Nat.reduceAdd, ↓reduceIte, reduceCtorEq, Nat.reduceLT, forall_const, d_noriaref34_Form, eImg, e1, e2, hcondQ]))) | ((with_reducible refine And.intro ?_ ?_); · (simp; omega)) | (((((with_reducible refine dops_guardI (t := ?_) ?_ (fun hcQ => ?_) (fun hcQ => ?_)); rotate_left; · (rfl))) <;> (have hn := hcQ; have hcondQ := hcQ) <;> (try simp only [decide_eq_true_eq, decide_eq_false_iff_not] at hn) <;> (try (exfalso; omega)) <;> (refine Todo.of ?_))) | fail))
  refine dwp_each (x.ins ++ x.outs) (fun k (o : List (List UInt8)) => ⟨[(1, .ref (cImg x)), (3, .own 0 (x.ins.length + x.outs.length) 0 (x.ins.length + x.outs.length)), (4, .own 1 o.length 0 o.length), (5, .int .i64 k)], [⟨.imm, 4, (x.ins ++ x.outs).map cPrt⟩, ⟨.imm, 1, sls o⟩]⟩)
    (fun k r o => r.all (portOk x.en) = (x.ins ++ x.outs).all (portOk x.en) ∧ o ++ pnames r = pnames (x.ins ++ x.outs) ∧ o.length = k) [] (Nat.zero_le _) (by simp only [cut_some, List.map_cons, List.map_nil, get_cons, Nk.get_nil, Nat.reduceEqDiff, ↓reduceIte, DV.cut, DV.inB, DObj.cut, List.take_nil, reduceCtorEq, decide_true, Nat.reduceLT, List.take_succ_cons, List.length_nil, List.map_append] <;> rfl) ⟨rfl, rfl, rfl⟩ (fun k y r o d hy hd hr2 => ?_) (fun k o e hr2 => ?_)
  · obtain ⟨g1, g2, g3⟩ := hr2
    simp only [List.all_cons] at g1
    simp only [pnames, List.map_cons] at g2
    rw [List.length_append] at d
    have e3 := s_RightTy_at x.en y.ty
    simp only [cTy] at e3
    (have hcondQ := Bool.and_self; refine Todo.of ?_); (repeat' (first | ((with_reducible refine Todo.to ?_); (repeat (first | (simp only [↓rP, rT, rU, dvalX, dval, dBin, dInt, dUn, dLoad, cellsAt, retV, DR.val, fzT, fzV, fz1, DV.immB, dCallP, viewVs, viewV, view1, viewL, noMemV, noMem, elemsOf, dAppend, alive, fzLL, fzL, bRow, bU, cellsOf, DV.isU, lenMax, Nat.reduceEqDiff, Nat.reduceAdd, ↓reduceIte, reduceCtorEq, Nat.reduceLeDiff, Nat.reduceLT, forall_const, s_Low_at, sls_len, d, map_getD cPrt hy, e3, sls_snoc , hcondQ]) | ((simp (disch := omega) only [i64_id]))))) | ((with_reducible refine And.intro ?_ ?_); · omega) | (((first | ((with_reducible refine dwp_condI (t := ?_) ?_ (fun hcQ => ?_) (fun hcQ => ?_)); rotate_left; · (rfl)) | ((with_reducible refine dops_guardI (t := ?_) ?_ (fun hcQ => ?_) (fun hcQ => ?_)); rotate_left; · (rfl))) <;> (have hn := hcQ; have hcondQ := hcQ) <;> (try simp only [Bool.not_eq_true', Bool.not_eq_false'] at hn) <;> (refine Todo.of ?_))) | fail))
    all_goals first
      | exact ⟨o ++ [y.name], by simp only [cut_some, List.map_cons, List.map_nil, get_cons, Nk.get_nil, Nat.reduceEqDiff, ↓reduceIte, DV.cut, DV.inB, DObj.cut, List.take_nil, reduceCtorEq, decide_true, Nat.reduceLT, List.take_succ_cons, Int.natCast_add, Int.natCast_one, List.length_append, List.length_cons, List.length_nil, Nat.zero_add, List.map_append] <;> rfl, by grind [portOk], by simpa [pnames] using g2, by simp [g3]⟩
      | grind [portOk]
      | trace_state
  obtain ⟨g1, g2, g3⟩ := hr2
  simp only [List.all_nil] at g1
  rw [← g1, Bool.true_and]
  rw [show pnames [] = [] from rfl, List.append_nil] at g2
  rw [← g2]
  rw [List.length_append] at e
  have e3 := s_Once_at o
  rw [eq_true (show o.length ≤ 1000000000 by omega)] at e3
  have e4 := s_Shape_at x
  rw [eq_true h1'] at e4
  have e5 := s_ShapeOk_at (shapeF x)
  simp only [cImg] at e4
  (have hcondQ := Bool.and_self; refine Todo.of ?_); (repeat' (first | ((with_reducible refine Todo.to ?_); (repeat (simp only [↓rP, rT, rU, dvalX, dval, dBin, dInt, dLoad, cellsAt, retV, DR.val, fzT, fzVs, fzV, fz1, DV.immB, dCallP, viewVs, viewV, view1, viewL, noMemV, noMem, elemsOf, alive, fzL, Nat.reduceEqDiff, Nat.reduceAdd, ↓reduceIte, reduceCtorEq, Nat.reduceLeDiff, sls_len, sls_tk0, e, e3, e4, e5, sls_tk0 , hcondQ]))) | ((with_reducible refine And.intro ?_ ?_); · omega) | (((((with_reducible refine dops_guardI (t := ?_) ?_ (fun hcQ => ?_) (fun hcQ => ?_)); rotate_left; · (rfl))) <;> (have hn := hcQ; have hcondQ := hcQ) <;> (try simp only [decide_eq_true_eq, decide_eq_false_iff_not, beq_iff_eq, bne_iff_ne, ne_eq, Bool.and_eq_true, Bool.or_eq_true, Bool.not_eq_true, Bool.not_eq_false, beq_eq_false_iff_ne, bne_eq_false_iff_eq, Bool.not_eq_true', Bool.not_eq_false', Int.ofNat_lt, Int.ofNat_le, Bool.or_eq_false_iff, Bool.and_eq_false_imp, Decidable.not_not, gt_iff_lt, ge_iff_le] at hn) <;> (refine Todo.of ?_))) | fail))
  all_goals grind

theorem onceF_names {l : List En} (h : enumsF l = 0) : (namesF l).Pairwise (· ≠ ·) := by
  unfold enumsF at h
  split at h
  · cases h
  · split at h
    · cases h
    · split at h
      · cases h
      · split at h
        · rename_i hh
          rw [Bool.and_eq_true] at hh
          exact of_decide_eq_true hh.1
        · cases h
theorem sameEn_ne {l : List En} (h : enumsF l = 0) {i j : Nat} (hij : i < j) (hj : j < l.length) : sameEn (l.getD j default) (l.getD i default) = false := by
  have hp := onceF_names h
  rw [List.pairwise_iff_getElem] at hp
  have := hp i j (by simp [namesF]; omega) (by simpa [namesF] using hj) hij
  simp only [namesF, List.getElem_map] at this
  have g1 : l.getD j default = l[j] := by simp [hj]
  have g2 : l.getD i default = l[i]'(by omega) := by simp [show i < l.length by omega]
  rw [g1, g2]
  simp only [sameEn, Bool.and_eq_false_imp, decide_eq_true_eq, decide_eq_false_iff_not]
  intro e
  exact absurd e.symm this
theorem hereG_self {l : List En} (h : enumsF l = 0) {e : Nat} {n : Int} (he : e < l.length) (hr : rightTy l ⟨3, e, n⟩ = true) :
    ∀ (m i : Nat), i + m = e → hereG l l ⟨3, e, n⟩ (l.drop i) i = (⟨3, e, n⟩, true) := by
  have hone : rightTy l ⟨3, (e : Int), 0⟩ = true := by
    simp only [rightTy] at hr ⊢
    simp at hr ⊢
    exact hr.2
  intro m
  induction m with
  | zero =>
    intro i hi
    have : i = e := by omega
    subst this
    rw [List.drop_eq_getElem_cons he]
    refine hereG_yes ?_
    simp only [alikeF, oneT, hone, Bool.true_and, beq_self_eq_true, if_true, sameEn]
    simp
  | succ m ih =>
    intro i hi
    rw [List.drop_eq_getElem_cons (by omega)]
    rw [hereG_no, ← ih (i + 1) (by omega)]
    · rfl
    · simp only [alikeF, oneT, hone, Bool.true_and, beq_self_eq_true, if_true]
      simp only [Int.toNat_natCast]
      rw [sameEn_ne h (by omega) he, Bool.and_false]
theorem here_self {l : List En} (h : enumsF l = 0) {t : Ty} (hr : rightTy l t = true) : hereF l l t = (t, true) := by
  unfold hereF
  rw [if_pos hr]
  by_cases k3 : t.k = 3
  · rw [if_pos k3]
    obtain ⟨tk, te, tn⟩ := t
    simp only at k3
    subst k3
    obtain ⟨e, rfl, he⟩ : ∃ e : Nat, te = e ∧ e < l.length := by
      simp only [rightTy, if_true, Bool.and_eq_true, decide_eq_true_eq] at hr
      exact ⟨te.toNat, by omega, by omega⟩
    exact hereG_self h he hr e 0 (by omega)
  · rw [if_neg k3]
theorem slotsR_at {l : List En} {s : List Slt} : ∀ (r : List Slt) (k : Nat), slotsR l s r k = true → ∀ (j : Nat) (x : Slt), r[j]? = some x → slotOk l s (k + j) x = true
  | [], _, _, j, x, h => by simp at h
  | y :: r, k, h, j, x, hx => by
    simp only [slotsR, Bool.and_eq_true] at h
    cases j with
    | zero => simp at hx; subst hx; exact h.1
    | succ j =>
      have := slotsR_at r (k + 1) h.2 j x (by simpa using hx)
      rw [show k + (j + 1) = k + 1 + j by omega]
      exact this
def keptF (x : Img) : List Chg := x.slots.map fun s => ⟨s.path, 1⟩
theorem diff_self {x : Img} (h : formF x = true) : diffF x x = keptF x := by
  simp only [formF, Bool.and_eq_true, beq_iff_eq] at h
  obtain ⟨⟨⟨⟨⟨⟨⟨h1, _⟩, _⟩, _⟩, h2⟩, _⟩, _⟩, _⟩ := h
  simp only [rightS, Bool.and_eq_true] at h2
  have hs := slotsR_at x.slots 0 h2.2
  have hk : ∀ s ∈ x.slots, ∃ k : Nat, fndI x.slots s.path = k ∧ x.slots[k]? = some s ∧ rightTy x.en s.ty = true := by
    intro s hs'
    obtain ⟨k, hk, rfl⟩ := List.mem_iff_getElem.1 hs'
    have hx : x.slots[k]? = some x.slots[k] := List.getElem?_eq_getElem hk
    have := hs k _ hx
    simp only [slotOk, rightV, Bool.and_eq_true, beq_iff_eq] at this
    exact ⟨k, by rw [this.2]; simp, hx, this.1.1.2.1.1⟩
  have hg : goneF x x.slots = [] := by
    simp only [goneF, List.map_eq_nil_iff, List.filter_eq_nil_iff, decide_eq_true_eq]
    intro s hs' hn
    obtain ⟨k, e, _, _⟩ := hk s hs'
    omega
  have hn : newF x x = keptF x := by
    simp only [newF, keptF]
    refine List.map_congr_left fun s hs' => ?_
    obtain ⟨k, e, e2, e3⟩ := hk s hs'
    have : whatF x x s = 1 := by
      simp only [whatF, e, Int.toNat_natCast]
      rw [if_neg (by omega), getD_some e2, here_self h1 e3]
      simp [whatG, eqT]
    rw [this]
  rw [diffF, hg, hn, List.append_nil]
theorem few_okForm {x : Img} (h : fewF x = true) : okForm x := by
  simp only [fewF, smallF, Bool.and_eq_true, decide_eq_true_eq, List.all_eq_true] at h
  obtain ⟨⟨⟨⟨⟨⟨⟨h1, h2⟩, h3⟩, h4⟩, h5⟩, h6⟩, h7⟩, h8⟩ := h
  refine ⟨⟨by omega, by omega, by omega, by omega, by omega⟩, fun s hs => ?_⟩
  have := h8 s hs
  simp only [fewS, Bool.and_eq_true, decide_eq_true_eq] at this
  omega
end Go.Proofs.YtjgefhgkinocmaaGreat

