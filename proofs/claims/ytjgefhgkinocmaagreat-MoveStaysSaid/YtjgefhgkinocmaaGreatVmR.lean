/- Instructions: which may be. -/
import Derived.Test.YtjgefhgkinocmaaGreatArithB
import Derived.Test.YtjgefhgkinocmaaGreatNkZ3
set_option linter.all false
set_option maxRecDepth 20000
namespace Go.Proofs.YtjgefhgkinocmaaGreat
open Go.Nk

structure Ins where
  o : Int
  a : Int
  b : Int
  n : Int
@[reducible] def cIns (x : Ins) : List DV := [.int .i64 x.o, .int .i64 x.a, .int .i64 x.b, .int .i64 x.n]
theorem cIns_inj : ∀ x y, cIns x = cIns y → x = y := fun x y h => by
  cases x; cases y
  simp only [cIns, List.cons.injEq, DV.int.injEq, true_and, and_true] at h
  obtain ⟨rfl, rfl, rfl, rfl⟩ := h
  rfl
instance : Inhabited Ins := ⟨⟨0, 0, 0, 0⟩⟩

def withinF (n lo hi : Int) : Bool := decide (lo ≤ n) && decide (n ≤ hi)
def firstF (x : Ins) : Bool :=
  if x.o = 1 then withinF x.a 1 1000 else if x.o = 4 then x.a == 1 || x.a == 2 else if x.o = 5 then withinF x.a 3 16 else if x.o = 10 then x.a == 0 else withinF x.a 0 65535
def rightF (x : Ins) : Bool :=
  decide (1 ≤ x.o) && decide (x.o ≤ 10) && firstF x && (x.o == 1 || x.n == 0) && (if x.o = 8 ∨ x.o = 9 then withinF x.b 1 8 else x.b == 0)

noncomputable def s_within : List DV → Prop × DV := spec3 eI eI eI fun n a b => (True, .bool (withinF n a b))
theorem s_within_at (n a b : Int) : s_within [.int .i64 n, .int .i64 a, .int .i64 b] = (True, .bool (withinF n a b)) := spec3_at inj_I inj_I inj_I _ _ _ _
theorem ok_instr_within : OkP Tryz.prog 145 s_within := by
  refine OkP.mk3 (ps := []) (hs := []) trivial trivial m_instr_within fun n a b _ => ?_
  (have hcondQ := Bool.and_self; refine Todo.of ?_; repeat' (first | ((with_reducible refine Todo.to ?_); try simp only [↓rP, rT, rU, eI, dvalX, dval, dBin, dInt, retV, DR.val, fzT, fzV, fz1, DV.immB, Nat.reduceEqDiff, ↓reduceIte, reduceCtorEq, d_instr_within, hcondQ]) | ((with_reducible refine And.intro ?_ ?_); · first | trivial | omega | (simp; done) | (simp; omega)) | ((first | ((with_reducible refine dwp_condI (t := ?_) ?_ (fun hcQ => ?_) (fun hcQ => ?_)); rotate_left; · rfl) | ((with_reducible refine dops_guardI (t := ?_) ?_ (fun hcQ => ?_) (fun hcQ => ?_)); rotate_left; · rfl)) <;> (have hn := hcQ; have hcondQ := hcQ) <;> (try simp only [decide_eq_true_eq, decide_eq_false_iff_not] at hn) <;> (try (exfalso; omega)) <;> (refine Todo.of ?_)) | (((with_reducible refine dwp_condA ?_ ?_ ?_); · rfl) <;> (refine Todo.of ?_))))
  all_goals grind [withinF]

abbrev eIns : Ins → DV := eA cIns
noncomputable def s_right : List DV → Prop × DV := spec1 eIns fun x => (True, .bool (rightF x))
theorem s_right_at (x : Ins) : s_right [.agg (cIns x)] = (True, .bool (rightF x)) := spec1_at (inj_A cIns_inj) _ _
noncomputable def s_first : List DV → Prop × DV := spec1 eIns fun x => (True, .bool (firstF x))
theorem s_first_at (x : Ins) : s_first [.agg (cIns x)] = (True, .bool (firstF x)) := spec1_at (inj_A cIns_inj) _ _
theorem ok_instr_first : OkP Tryz.prog 144 s_first := by
  refine OkP.mk1 (ps := [(145, s_within)]) (hs := []) ⟨ok_instr_within, trivial⟩ trivial m_instr_first fun x _ => ?_
  (have hcondQ := Bool.and_self; refine Todo.of ?_; repeat' (first | ((with_reducible refine Todo.to ?_); try simp only [↓rP, rT, rU, dvalX, dval, dBin, dInt, dLoad, cellsAt, retV, DR.val, fzT, fzV, fz1, DV.immB, dCallP, viewVs, viewV, view1, noMemV, noMem, DV.one, alive, cellsOf, Nat.reduceEqDiff, Nat.reduceAdd, ↓reduceIte, reduceCtorEq, Nat.reduceLT, forall_const, d_instr_first, s_within_at, hcondQ]) | ((with_reducible refine And.intro ?_ ?_); · first | trivial | omega | (simp; done) | (simp; omega)) | ((first | ((with_reducible refine dwp_condI (t := ?_) ?_ (fun hcQ => ?_) (fun hcQ => ?_)); rotate_left; · rfl) | ((with_reducible refine dops_guardI (t := ?_) ?_ (fun hcQ => ?_) (fun hcQ => ?_)); rotate_left; · rfl)) <;> (have hn := hcQ; have hcondQ := hcQ) <;> (try simp only [beq_iff_eq, ne_eq, beq_eq_false_iff_ne] at hn) <;> (try (exfalso; omega)) <;> (refine Todo.of ?_)) | (((with_reducible refine dwp_condA ?_ ?_ ?_); · rfl) <;> (refine Todo.of ?_))))
  all_goals (obtain ⟨o, a, b, n⟩ := x; simp only at *; grind [firstF])

def nameI (o : Int) : List UInt8 :=
  if o = 1 then [112, 117, 115, 104] else if o = 2 then [108, 111, 97, 100] else if o = 3 then [115, 116, 111, 114, 101] else if o = 4 then [117, 110] else if o = 5 then [98, 105, 110] else
  if o = 6 then [106, 117, 109, 112] else if o = 7 then [122, 101, 114, 111] else if o = 8 then [103, 101, 116] else if o = 9 then [112, 117, 116] else if o = 10 then [104, 97, 108, 116] else []
def wideF (o : Int) : Bool := o == 1 || o == 2 || o == 3 || o == 6 || o == 7 || o == 8 || o == 9
def fOf (o : Int) : Prop × DV := (True, .tup [.agg [.str (nameI o), .bool (wideF o), .bool (o == 4 || o == 5), .bool (o == 8 || o == 9), .bool (o == 1)], .bool (decide (1 ≤ o) && decide (o ≤ 10))])
noncomputable def s_of : List DV → Prop × DV := spec1 eI fOf
theorem s_of_at (o : Int) : s_of [.int .i64 o] = fOf o := spec1_at inj_I _ _
theorem ok_instr_of : OkP Tryz.prog 143 s_of := by
  refine OkP.mk1 (ps := []) (hs := []) trivial trivial m_instr_of fun o _ => ?_
  (have hcondQ := Bool.and_self; refine Todo.of ?_; repeat' (first | ((with_reducible refine Todo.to ?_); try simp only [↓rP, rT, rU, eI, buildCells, dvalX, dval, dBin, dInt, dLoad, cellsAt, retV, retL, DR.val, fzT, fzVs, fzV, fz1, DV.immB, dStore, DV.one, fzL, cellsOf, setFrom, DV.isU, Nat.reduceEqDiff, Nat.reduceAdd, ↓reduceIte, reduceCtorEq, Nat.reduceLeDiff, forall_const, d_instr_of, fOf, hcondQ]) | ((with_reducible refine And.intro ?_ ?_); · first | trivial | omega | (simp; done) | (simp; omega)) | ((first | ((with_reducible refine dwp_condI (t := ?_) ?_ (fun hcQ => ?_) (fun hcQ => ?_)); rotate_left; · rfl) | ((with_reducible refine dops_guardI (t := ?_) ?_ (fun hcQ => ?_) (fun hcQ => ?_)); rotate_left; · rfl)) <;> (have hn := hcQ; have hcondQ := hcQ) <;> (try simp only [beq_iff_eq, ne_eq, beq_eq_false_iff_ne] at hn) <;> (try (exfalso; omega)) <;> (refine Todo.of ?_)) | (((with_reducible refine dwp_condA ?_ ?_ ?_); · rfl) <;> (refine Todo.of ?_))))
  all_goals grind [nameI, wideF]
theorem ok_instr_right : OkP Tryz.prog 132 s_right := by
  refine OkP.mk1 (ps := [(143, s_of), (144, s_first), (145, s_within)]) (hs := []) ⟨ok_instr_of, ok_instr_first, ok_instr_within, trivial⟩ trivial m_instr_Right fun x _ => ?_
  have e := s_first_at x
  (have hcondQ := Bool.and_self; refine Todo.of ?_; repeat' (first | ((with_reducible refine Todo.to ?_); try simp only [↓rP, rT, rU, dvalX, dval, dBin, dInt, dUn, dLoad, cellsAt, retV, DR.val, fzT, fzVs, fzV, fz1, DV.immB, dCallP, viewVs, viewV, view1, viewL, noMemV, noMem, dStore, DV.one, alive, cellsOf, setFrom, Nat.reduceEqDiff, Nat.reduceAdd, ↓reduceIte, reduceCtorEq, Nat.reduceLeDiff, Nat.reduceLT, forall_const, d_instr_Right, s_of_at, s_within_at, fOf, e, hcondQ]) | ((with_reducible refine And.intro ?_ ?_); · first | trivial | omega | (simp; done) | (simp; omega)) | ((first | ((with_reducible refine dwp_condI (t := ?_) ?_ (fun hcQ => ?_) (fun hcQ => ?_)); rotate_left; · rfl) | ((with_reducible refine dops_guardI (t := ?_) ?_ (fun hcQ => ?_) (fun hcQ => ?_)); rotate_left; · rfl)) <;> (have hn := hcQ; have hcondQ := hcQ) <;> (try simp only [decide_eq_true_eq, decide_eq_false_iff_not, beq_iff_eq, bne_iff_ne, ne_eq, Bool.and_eq_true, Bool.or_eq_true, beq_eq_false_iff_ne, bne_eq_false_iff_eq, Bool.not_eq_true', Bool.not_eq_false', Bool.or_eq_false_iff, Bool.and_eq_false_imp] at hn) <;> (try (exfalso; omega)) <;> (refine Todo.of ?_)) | (((with_reducible refine dwp_condA ?_ ?_ ?_); · rfl) <;> (refine Todo.of ?_))))
  all_goals (obtain ⟨o, a, b, n⟩ := x; simp only at *; grind [rightF, firstF])
end Go.Proofs.YtjgefhgkinocmaaGreat
