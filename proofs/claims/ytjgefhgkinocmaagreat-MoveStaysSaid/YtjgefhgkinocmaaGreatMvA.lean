/- Steps of a plan: which may be; numbers one behind the other. -/
import Derived.Test.YtjgefhgkinocmaaGreatVm9
import Derived.Test.YtjgefhgkinocmaaGreatVmL
import Derived.Test.YtjgefhgkinocmaaGreatNkZ6
set_option linter.all false
set_option maxRecDepth 20000
namespace Go.Proofs.YtjgefhgkinocmaaGreat
open Go.Nk
@[reducible] def cIr (l : List Int) : List DV := [.sl (il l)]
theorem cIr_inj : ∀ x y, cIr x = cIr y → x = y := fun x y h => il_inj (by simpa using h)
structure Pln where
  kind : Int
  at_ : Int
  len : Int
  old : Int
  init : List Int
  code : List Ins
@[reducible] def cPln (p : Pln) : List DV := [.int .i64 p.kind, .int .i64 p.at_, .int .i64 p.len, .int .i64 p.old, .sl (il p.init), .sl (p.code.map cIns)]
theorem cPln_inj : ∀ x y, cPln x = cPln y → x = y := fun x y h => by
  cases x; cases y
  simp only [cPln, List.cons.injEq, DV.int.injEq, DV.sl.injEq, true_and, and_true] at h
  obtain ⟨rfl, rfl, rfl, rfl, h1, h2⟩ := h
  rw [il_inj h1, map_inj cIns_inj _ _ h2]
instance : Inhabited Pln := ⟨⟨0, 0, 0, 0, [], []⟩⟩
abbrev ePln : Pln → DV := eA cPln
theorem inj_Pln : Inj ePln := inj_A cPln_inj
abbrev ePlns : List Pln → DV := eL cPln
theorem inj_Plns : Inj ePlns := inj_L cPln_inj

/-! which may be -/
def rightQ (x : Pln) (b c : Int) : Bool :=
  x.at_ == b && decide (1 ≤ x.len) && decide (x.len ≤ 8) && decide (b ≤ 1000 - x.len) &&
  (if x.kind = 1 then decide (0 ≤ x.old) && decide (x.old ≤ c) && decide (x.len ≤ c - x.old) else if x.kind = 2 then decide ((x.init.length : Int) = x.len) else decide (x.kind = 3))
def rightL : List Pln → Int → Int → Bool
  | [], _, _ => true
  | x :: r, b, c => rightQ x b c && rightL r (b + x.len) c
noncomputable def s_plright : List DV → Prop × DV := spec3 ePln eI eI fun x b c => (0 ≤ b ∧ b ≤ 1000 ∧ 0 ≤ c ∧ c ≤ 1000000000, .bool (rightQ x b c))
theorem s_plright_at (x : Pln) (b : Int) (c : Int) : s_plright [.agg (cPln x), .int .i64 b, .int .i64 c] = (0 ≤ b ∧ b ≤ 1000 ∧ 0 ≤ c ∧ c ≤ 1000000000, .bool (rightQ x b c)) := spec3_at inj_Pln inj_I inj_I _ x b c
theorem ok_plan_right : OkP Tryz.prog 53 s_plright := by
  refine OkP.mk3 (ps := []) (hs := []) trivial trivial m_plan_right fun x b c h => ?_
  try dsimp only at h
  obtain ⟨h1, h2, h3, h4⟩ := h
  (have hcondQ := Bool.and_self; refine Todo.of ?_); (repeat' (first | ((with_reducible refine Todo.to ?_); (repeat (first | (simp only [↓rP, rT, rU, eI, eA, dvalX, dval, dBin, dInt, dLoad, cellsAt, retV, DR.val, fzT, fzV, fz1, DV.immB, cellsOf, Nat.reduceEqDiff, Nat.reduceAdd, ↓reduceIte, reduceCtorEq, Nat.reduceLT, d_plan_right, ePln, il_len , hcondQ]) | ((simp (disch := omega) only [i64_id]))))) | (((first | ((with_reducible refine dwp_condI (t := ?_) ?_ (fun hcQ => ?_) (fun hcQ => ?_)); rotate_left; · (rfl)) | ((with_reducible refine dops_guardI (t := ?_) ?_ (fun hcQ => ?_) (fun hcQ => ?_)); rotate_left; · (rfl))) <;> (have hn := hcQ; have hcondQ := hcQ) <;> (try simp only [decide_eq_true_eq, decide_eq_false_iff_not, beq_iff_eq, ne_eq, beq_eq_false_iff_ne] at hn) <;> (refine Todo.of ?_))) | fail))
  all_goals (obtain ⟨kind, at_, len, old, init, code⟩ := x; simp only at *; grind [rightQ])
noncomputable def s_plRight : List DV → Prop × DV := spec2 ePlns eI fun l c => (l.length ≤ 1000000 ∧ 0 ≤ c ∧ c ≤ 1000000000, .bool (rightL l 0 c))
theorem s_plRight_at (l : List Pln) (c : Int) : s_plRight [.sl (l.map cPln), .int .i64 c] = (l.length ≤ 1000000 ∧ 0 ≤ c ∧ c ≤ 1000000000, .bool (rightL l 0 c)) := spec2_at inj_Plns inj_I _ l c
theorem rightQ_len {x : Pln} {b c : Int} (h : rightQ x b c = true) : 1 ≤ x.len ∧ x.len ≤ 8 ∧ b + x.len ≤ 1000 := by
  simp only [rightQ, Bool.and_eq_true, decide_eq_true_eq] at h
  omega
theorem ok_plan_Right : OkP Tryz.prog 24 s_plRight := by
  refine OkP.mk2 (ps := [(53, s_plright)]) (hs := []) ⟨ok_plan_right, trivial⟩ trivial m_plan_Right fun l c h => ?_
  try dsimp only at h
  obtain ⟨h1, h3, h4⟩ := h
  (have hcondQ := Bool.and_self; refine Todo.of ?_); (repeat' (first | ((with_reducible refine Todo.to ?_); (repeat (simp only [↓rP, rT, rU, eI, eL, dvalX, dval, ↓reduceIte, reduceCtorEq, d_plan_Right, ePlns ])))))
  refine dwp_each l (fun k (n : Int) => ⟨[(1, .int .i64 c), (5, .int .i64 n), (8, .sl (l.map cPln)), (9, .int .i64 l.length), (10, .int .i64 k)], []⟩) (fun k r n => rightL l 0 c = rightL r n c ∧ 0 ≤ n ∧ n ≤ 1000) 0 (Nat.le_refl _) (by simp only [cut_some, List.map_cons, List.map_nil, get_cons, Nk.get_nil, Nat.reduceEqDiff, ↓reduceIte, Nat.succ_ne_self, DV.cut, DV.inB, List.take_nil] <;> rfl) ⟨rfl, by omega, by omega⟩ (fun k x r n d hx hd hr => ?_) (fun k n e hr => ?_)
  · obtain ⟨hr, n0, n1⟩ := hr
    have hq : rightL (x :: r) n c = (rightQ x n c && rightL r (n + x.len) c) := rfl
    rw [hq] at hr
    cases hb : rightQ x n c
    · rw [hb, Bool.false_and] at hr
      (have hcondQ := Bool.and_self; refine Todo.of ?_); (repeat' (first | ((with_reducible refine Todo.to ?_); (repeat (simp only [↓rP, rT, rU, dvalX, dval, dBin, dInt, dUn, dLoad, cellsAt, retV, DR.val, fzT, fzV, fz1, DV.immB, dCallP, viewVs, viewV, view1, viewL, noMemV, noMem, dStore, DV.one, cellsOf, setFrom, Nat.reduceEqDiff, Nat.reduceAdd, ↓reduceIte, reduceCtorEq, Nat.reduceLeDiff, forall_const, s_plright_at, d, map_getD cPln hx, hb, hr, n0, n1 ]))) | ((with_reducible refine And.intro ?_ ?_); · first | (trivial) | (omega)) | fail)) <;> (try (assumption))
    · rw [hb, Bool.true_and] at hr
      obtain ⟨q1, q2, q3⟩ := rightQ_len hb
      (have hcondQ := Bool.and_self; refine Todo.of ?_); (repeat' (first | ((with_reducible refine Todo.to ?_); (repeat (first | (simp only [↓rP, rT, rU, dvalX, dval, dBin, dInt, dUn, dLoad, cellsAt, DV.immB, dCallP, viewVs, viewV, view1, viewL, noMemV, noMem, dStore, DV.one, alive, cellsOf, setFrom, Nat.reduceEqDiff, Nat.reduceAdd, ↓reduceIte, reduceCtorEq, Nat.reduceLeDiff, Nat.reduceLT, forall_const, s_plright_at, d, map_getD cPln hx, hb, n0, n1 ]) | ((simp (disch := omega) only [i64_id]))))) | ((with_reducible refine And.intro ?_ ?_); · first | (trivial) | (omega)) | fail))
      exact ⟨n + x.len, by simp only [cut_some, List.map_cons, List.map_nil, get_cons, Nk.get_nil, Nat.reduceEqDiff, ↓reduceIte, Nat.succ_ne_self, DV.cut, DV.inB, List.take_zero, Int.natCast_add, Int.natCast_one] <;> rfl, hr, by omega, by omega⟩
  · obtain ⟨hr, _⟩ := hr
    (have hcondQ := Bool.and_self; refine Todo.of ?_); (repeat' (first | ((with_reducible refine Todo.to ?_); (repeat (simp only [↓rP, rT, rU, dvalX, dval, dBin, dInt, retV, DR.val, fzT, fzV, fz1, DV.immB, Nat.reduceEqDiff, ↓reduceIte, e, hr, rightL ])))))
end Go.Proofs.YtjgefhgkinocmaaGreat
