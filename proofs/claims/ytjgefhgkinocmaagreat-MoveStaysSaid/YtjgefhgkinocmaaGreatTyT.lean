/- Names; which enums may be. -/
import Derived.Test.YtjgefhgkinocmaaGreatTyM
import Derived.Test.YtjgefhgkinocmaaGreatNkZ3
set_option linter.all false
set_option maxRecDepth 20000
namespace Go.Proofs.YtjgefhgkinocmaaGreat
open Go.Nk


def inY (c a b : UInt8) : Bool := decide (a.toNat ≤ c.toNat) && decide (c.toNat ≤ b.toNat)
noncomputable def s_in : List DV → Prop × DV := spec3 eY eY eY fun c a b => (True, .bool (inY c a b))
theorem s_in_at (c : UInt8) (a : UInt8) (b : UInt8) : s_in [.int .u8 c.toNat, .int .u8 a.toNat, .int .u8 b.toNat] = (True, .bool (inY c a b)) := spec3_at inj_Y inj_Y inj_Y _ c a b
theorem ok_noriaref04_in : OkP Tryz.prog 89 s_in := by
  refine OkP.mk3 (ps := []) (hs := []) trivial trivial m_noriaref04_in fun c a b _ => ?_
  (have hcondQ := Bool.and_self; refine Todo.of ?_); (repeat' (first | ((with_reducible refine Todo.to ?_); (repeat (simp only [↓rP, rT, rU, dvalX, dval, dBin, dInt, retV, DR.val, fzT, fzV, fz1, DV.immB, Nat.reduceEqDiff, ↓reduceIte, reduceCtorEq, d_noriaref04_in, eY, hcondQ]))) | (((((with_reducible refine dops_guardI (t := ?_) ?_ (fun hcQ => ?_) (fun hcQ => ?_)); rotate_left; · (rfl))) <;> (have hn := hcQ; have hcondQ := hcQ) <;> (try simp only [decide_eq_true_eq, decide_eq_false_iff_not, Int.ofNat_le] at hn) <;> (refine Todo.of ?_))) | fail))
  all_goals grind [inY]
def charF (c : UInt8) : Bool := inY c 97 122 || inY c 65 90 || inY c 48 57 || c == 95
def nameF (s : List UInt8) (a b : UInt8) : Bool := decide (1 ≤ s.length) && decide (s.length ≤ 12) && inY (s.getD 0 0) a b && s.all charF
noncomputable def s_name : List DV → Prop × DV := spec3 eS eY eY fun s a b => (True, .bool (nameF s a b))
theorem s_name_at (s : List UInt8) (a : UInt8) (b : UInt8) : s_name [.str s, .int .u8 a.toNat, .int .u8 b.toNat] = (True, .bool (nameF s a b)) := spec3_at inj_S inj_Y inj_Y _ s a b
theorem ok_noriaref04_name : OkP Tryz.prog 62 s_name := by
  refine OkP.mk3 (ps := [(89, s_in)]) (hs := []) ⟨ok_noriaref04_in, trivial⟩ trivial m_noriaref04_name fun s a b _ => ?_
  by_cases q : 1 ≤ s.length ∧ s.length ≤ 12
  rotate_left
  · have hr : nameF s a b = false := by simp only [nameF]; grind
    have e1 := fun x => s_in_at x a b
    (have hcondQ := Bool.and_self; refine Todo.of ?_); (repeat' (first | ((with_reducible refine Todo.to ?_); (repeat (simp only [↓rP, rT, rU, eS, dvalX, dval, dBin, dInt, retV, DR.val, fzT, fzV, fz1, DV.immB, Nat.reduceEqDiff, ↓reduceIte, reduceCtorEq, d_noriaref04_name, eY, hr, hcondQ]))) | (((((with_reducible refine dops_guardI (t := ?_) ?_ (fun hcQ => ?_) (fun hcQ => ?_)); rotate_left; · (rfl))) <;> (have hn := hcQ; have hcondQ := hcQ) <;> (try simp only [decide_eq_true_eq, decide_eq_false_iff_not] at hn) <;> (try (exfalso; omega)) <;> (refine Todo.of ?_))) | fail))
  obtain ⟨q1, q2⟩ := q
  have e0 := s_in_at (s.getD 0 0) a b
  by_cases q3 : inY (s.getD 0 0) a b = true
  rotate_left
  · have hr : nameF s a b = false := by simp only [nameF]; grind
    (have hcondQ := Bool.and_self; refine Todo.of ?_); (repeat' (first | ((with_reducible refine Todo.to ?_); (repeat (simp only [↓rP, rT, rU, eS, dvalX, dval, dBin, dInt, dUn, retV, DR.val, fzT, fzV, fz1, DV.immB, dCallP, viewVs, viewV, view1, noMemV, noMem, Nat.reduceEqDiff, ↓reduceIte, reduceCtorEq, Int.reduceToNat, Int.reduceLE, d_noriaref04_name, eY, hr, e0 , hcondQ]))) | ((with_reducible refine And.intro ?_ ?_); · omega) | (((first | ((with_reducible refine dwp_condI (t := ?_) ?_ (fun hcQ => ?_) (fun hcQ => ?_)); rotate_left; · (rfl)) | ((with_reducible refine dops_guardI (t := ?_) ?_ (fun hcQ => ?_) (fun hcQ => ?_)); rotate_left; · (rfl))) <;> (have hn := hcQ; have hcondQ := hcQ) <;> (try simp only [decide_eq_true_eq, decide_eq_false_iff_not, Bool.not_eq_true', Bool.not_eq_false'] at hn) <;> (try (exfalso; omega)) <;> (refine Todo.of ?_))) | fail))
    all_goals first | omega | grind
  have hr : nameF s a b = s.all charF := by unfold nameF; rw [q3]; simp only [q1, q2, decide_true, Bool.true_and]
  rw [hr]
  (have hcondQ := Bool.and_self; refine Todo.of ?_); (repeat' (first | ((with_reducible refine Todo.to ?_); (repeat (simp only [↓rP, rT, rU, eS, dvalX, dval, dBin, dInt, dUn, DV.immB, dCallP, viewVs, viewV, view1, noMemV, noMem, Nat.reduceEqDiff, ↓reduceIte, reduceCtorEq, Int.reduceToNat, Int.reduceLE, d_noriaref04_name, eY, e0, q3 , hcondQ]))) | ((with_reducible refine And.intro ?_ ?_); · omega) | (((((with_reducible refine dops_guardI (t := ?_) ?_ (fun hcQ => ?_) (fun hcQ => ?_)); rotate_left; · (rfl))) <;> (have hn := hcQ; have hcondQ := hcQ) <;> (try simp only [decide_eq_true_eq, decide_eq_false_iff_not] at hn) <;> (try (exfalso; omega)) <;> (refine Todo.of ?_))) | fail))
  refine dwp_each s (fun k (_ : Unit) => ⟨[(0, .str s), (7, .int .i64 k)], []⟩) (fun k r _ => r.all charF = s.all charF) () (Nat.zero_le _) (by simp only [cut_some, List.map_cons, List.map_nil, get_cons, Nk.get_nil, ↓reduceIte, DV.cut, DV.inB, List.take_nil, reduceCtorEq] <;> rfl) rfl (fun k x r _ d hx hd hr => ?_) (fun k _ e hr => ?_)
  · simp only [List.all_cons] at hr
    have e1 := s_in_at x 97 122
    have e2 := s_in_at x 65 90
    have e3 := s_in_at x 48 57
    have y1 : (97 : UInt8).toNat = 97 := rfl
    have y2 : (122 : UInt8).toNat = 122 := rfl
    have y3 : (65 : UInt8).toNat = 65 := rfl
    have y4 : (90 : UInt8).toNat = 90 := rfl
    have y5 : (48 : UInt8).toNat = 48 := rfl
    have y6 : (57 : UInt8).toNat = 57 := rfl
    simp only [y1, y2, y3, y4, y5, y6, Int.cast_ofNat_Int] at e1 e2 e3
    (have hcondQ := Bool.and_self; refine Todo.of ?_); (repeat' (first | ((with_reducible refine Todo.to ?_); (repeat (first | (simp only [↓rP, rT, rU, dvalX, dval, dBin, dInt, dUn, retV, DR.val, fzT, fzV, fz1, DV.immB, dCallP, viewVs, viewV, view1, noMemV, noMem, Nat.reduceEqDiff, ↓reduceIte, reduceCtorEq, d, getD_some hx, e1, e2, e3, beq95 , hcondQ]) | ((simp (disch := omega) only [i64_id]))))) | ((with_reducible refine And.intro ?_ ?_); · omega) | (((first | ((with_reducible refine dwp_condI (t := ?_) ?_ (fun hcQ => ?_) (fun hcQ => ?_)); rotate_left; · (rfl)) | ((with_reducible refine dops_guardI (t := ?_) ?_ (fun hcQ => ?_) (fun hcQ => ?_)); rotate_left; · (rfl))) <;> (have hn := hcQ; have hcondQ := hcQ) <;> (try simp only [beq_iff_eq, ne_eq, beq_eq_false_iff_ne, Bool.not_eq_true', Bool.not_eq_false'] at hn) <;> (refine Todo.of ?_))) | fail))
    all_goals first
      | exact ⟨(), by simp only [cut_some, List.map_cons, List.map_nil, get_cons, Nk.get_nil, ↓reduceIte, DV.cut, DV.inB, List.take_nil, reduceCtorEq, Int.natCast_add, Int.natCast_one] <;> rfl, by grind [charF]⟩
      | grind [charF]
  · simp only [List.all_nil] at hr
    (have hcondQ := Bool.and_self; refine Todo.of ?_); (repeat' (first | ((with_reducible refine Todo.to ?_); (repeat (simp only [↓rP, rT, rU, dvalX, dval, dBin, dInt, retV, DR.val, fzT, fzV, fz1, DV.immB, Nat.reduceEqDiff, ↓reduceIte, reduceCtorEq, e, ← hr ])))))

def wordsL : List (List UInt8) := [[110, 111, 100, 101], [114, 101, 116, 117, 114, 110, 115], [118, 97, 114], [108, 101, 116], [116, 101, 108], [101, 110, 117, 109], [105, 102], [116, 104, 101, 110], [101, 108, 115, 101], [102, 98, 121], [112, 114, 101], [119, 104, 101, 110], [109, 101, 114, 103, 101], [101, 118, 101, 114, 121], [110, 111, 116], [97, 110, 100], [111, 114], [120, 111, 114], [109, 111, 100], [116, 114, 117, 101], [102, 97, 108, 115, 101], [105, 110, 116], [98, 111, 111, 108], [119, 105, 116, 104]]
noncomputable def s_Words : List DV → Prop × DV := spec0 (True, eSs wordsL)
theorem s_Words_at : s_Words [] = (True, .sl (sls wordsL)) := spec0_at _
theorem ok_noriaref04_Words : OkP Tryz.prog 90 s_Words := by
  refine OkP.mk0 (ps := []) (hs := []) trivial trivial m_noriaref04_Words fun _ => ?_
  (have hcondQ := Bool.and_self; refine Todo.of ?_); (repeat' (first | ((with_reducible refine Todo.to ?_); (repeat (simp only [↓rP, rT, rU, dvalX, dval, retV, DR.val, fzT, fzV, fz1, DV.immB, fzLL, fzL, bRow, bU, cellsOf, DV.isU, ↓reduceIte, forall_const, d_noriaref04_Words, eSs, sls, wordsL , hcondQ])))))
def wordF (s : List UInt8) : Bool := wordsL.any (· == s)
noncomputable def s_Word : List DV → Prop × DV := spec1 eS fun s => (True, .bool (wordF s))
theorem s_Word_at (s : List UInt8) : s_Word [.str s] = (True, .bool (wordF s)) := spec1_at inj_S _ s
theorem ok_noriaref04_Word : OkP Tryz.prog 63 s_Word := by
  refine OkP.mk1 (ps := [(90, s_Words)]) (hs := []) ⟨ok_noriaref04_Words, trivial⟩ trivial m_noriaref04_Word fun s _ => ?_
  (have hcondQ := Bool.and_self; refine Todo.of ?_); (repeat' (first | ((with_reducible refine Todo.to ?_); (repeat (simp only [↓rP, rT, rU, eS, dvalX, dval, fzVs, dCallP, viewVs, noMemV, noMem, ↓reduceIte, reduceCtorEq, d_noriaref04_Word, s_Words_at ])))))
  have hl : wordsL.length = 24 := rfl
  refine dwp_each wordsL (fun k (_ : Unit) => ⟨[(0, .str s), (3, .sl (sls wordsL)), (4, .int .i64 k)], []⟩) (fun k r _ => r.any (· == s) = wordsL.any (· == s)) () (Nat.zero_le _) (by simp only [cut_some, List.map_cons, List.map_nil, get_cons, Nk.get_nil, Nat.reduceEqDiff, ↓reduceIte, DV.cut, DV.inB, List.take_nil, reduceCtorEq] <;> rfl) rfl (fun k x r _ d hx hd hr => ?_) (fun k _ e hr => ?_)
  · simp only [List.any_cons] at hr
    (have hcondQ := Bool.and_self; refine Todo.of ?_); (repeat' (first | ((with_reducible refine Todo.to ?_); (repeat (first | (simp only [↓rP, rT, rU, dvalX, dval, dBin, dInt, dStr, dLoad, cellsAt, retV, DR.val, fzT, fzV, fz1, DV.immB, Nat.reduceEqDiff, ↓reduceIte, reduceCtorEq, sls_len, d, slsAt hx , hcondQ]) | ((simp (disch := omega) only [i64_id]))))) | ((with_reducible refine And.intro ?_ ?_); · omega) | (((((with_reducible refine dwp_condI (t := ?_) ?_ (fun hcQ => ?_) (fun hcQ => ?_)); rotate_left; · (rfl))) <;> (have hn := hcQ; have hcondQ := hcQ) <;> (try simp only [beq_iff_eq, ne_eq, beq_eq_false_iff_ne] at hn) <;> (refine Todo.of ?_))) | fail))
    all_goals first
      | exact ⟨(), by simp only [cut_some, List.map_cons, List.map_nil, get_cons, Nk.get_nil, Nat.reduceEqDiff, ↓reduceIte, DV.cut, DV.inB, List.take_nil, reduceCtorEq, Int.natCast_add, Int.natCast_one] <;> rfl, by grind⟩
      | grind [wordF]
  · simp only [List.any_nil] at hr
    (have hcondQ := Bool.and_self; refine Todo.of ?_); (repeat' (first | ((with_reducible refine Todo.to ?_); (repeat (simp only [↓rP, rT, rU, dvalX, dval, dBin, dInt, retV, DR.val, fzT, fzV, fz1, DV.immB, Nat.reduceEqDiff, ↓reduceIte, reduceCtorEq, sls_len, e, wordF, ← hr ])))))
def lowF (s : List UInt8) : Bool := nameF s 97 122 && !wordF s
def highF (s : List UInt8) : Bool := nameF s 65 90
noncomputable def s_Low : List DV → Prop × DV := spec1 eS fun s => (True, .bool (lowF s))
theorem s_Low_at (s : List UInt8) : s_Low [.str s] = (True, .bool (lowF s)) := spec1_at inj_S _ s
noncomputable def s_High : List DV → Prop × DV := spec1 eS fun s => (True, .bool (highF s))
theorem s_High_at (s : List UInt8) : s_High [.str s] = (True, .bool (highF s)) := spec1_at inj_S _ s
theorem ok_noriaref04_Low : OkP Tryz.prog 35 s_Low := by
  refine OkP.mk1 (ps := [(62, s_name), (63, s_Word)]) (hs := []) ⟨ok_noriaref04_name, ok_noriaref04_Word, trivial⟩ trivial m_noriaref04_Low fun s _ => ?_
  have e1 := s_name_at s 97 122
  have y1 : (97 : UInt8).toNat = 97 := rfl
  have y2 : (122 : UInt8).toNat = 122 := rfl
  simp only [y1, y2, Int.cast_ofNat_Int] at e1
  (have hcondQ := Bool.and_self; refine Todo.of ?_); (repeat' (first | ((with_reducible refine Todo.to ?_); (repeat (simp only [↓rP, rT, rU, eS, dvalX, dval, dUn, retV, DR.val, fzT, fzV, fz1, DV.immB, dCallP, viewVs, viewV, view1, noMemV, noMem, Nat.reduceEqDiff, ↓reduceIte, reduceCtorEq, d_noriaref04_Low, s_Word_at, e1 , hcondQ]))) | (((((with_reducible refine dops_guardI (t := ?_) ?_ (fun hcQ => ?_) (fun hcQ => ?_)); rotate_left; · (rfl))) <;> (have hn := hcQ; have hcondQ := hcQ) <;> (try simp only [decide_eq_true_eq, decide_eq_false_iff_not, beq_iff_eq, bne_iff_ne, ne_eq, Bool.and_eq_true, Bool.or_eq_true, Bool.not_eq_true, Bool.not_eq_false, beq_eq_false_iff_ne, bne_eq_false_iff_eq, Bool.not_eq_true', Bool.not_eq_false', Int.ofNat_lt, Int.ofNat_le, Bool.or_eq_false_iff, Bool.and_eq_false_imp, Decidable.not_not, gt_iff_lt, ge_iff_le] at hn) <;> (refine Todo.of ?_))) | fail))
  all_goals grind [lowF]
theorem ok_noriaref04_High : OkP Tryz.prog 60 s_High := by
  refine OkP.mk1 (ps := [(62, s_name)]) (hs := []) ⟨ok_noriaref04_name, trivial⟩ trivial m_noriaref04_High fun s _ => ?_
  have e1 := s_name_at s 65 90
  have y1 : (65 : UInt8).toNat = 65 := rfl
  have y2 : (90 : UInt8).toNat = 90 := rfl
  simp only [y1, y2, Int.cast_ofNat_Int] at e1
  (have hcondQ := Bool.and_self; refine Todo.of ?_); (repeat' (first | ((with_reducible refine Todo.to ?_); (repeat (simp only [↓rP, rT, rU, eS, dvalX, dval, retV, DR.val, fzT, fzV, fz1, DV.immB, dCallP, viewVs, viewV, view1, noMemV, noMem, ↓reduceIte, reduceCtorEq, d_noriaref04_High, e1 ])))))
  rfl
def onceF (l : List (List UInt8)) : Bool := decide (l.Pairwise (· ≠ ·))
theorem once_take {l : List (List UInt8)} {k : Nat} {x : List UInt8} (h : l[k]? = some x) : (l.take (k + 1)).Pairwise (· ≠ ·) ↔ (l.take k).Pairwise (· ≠ ·) ∧ ∀ y ∈ l.take k, y ≠ x := by
  rw [List.take_add_one, h, List.pairwise_append]
  simp
theorem once_not {l : List (List UInt8)} {k j : Nat} {x : List UInt8} (h : l[k]? = some x) (hj : j < k) (h2 : l[j]? = some x) : onceF l = false := by
  simp only [onceF, decide_eq_false_iff_not]
  intro hp
  rw [List.pairwise_iff_getElem] at hp
  obtain ⟨h3, h4⟩ := List.getElem?_eq_some_iff.1 h
  obtain ⟨h5, h6⟩ := List.getElem?_eq_some_iff.1 h2
  exact hp j k h5 h3 hj (h6.trans h4.symm)
noncomputable def s_Once : List DV → Prop × DV := spec1 eSs fun l => (l.length ≤ 1000000000, .bool (onceF l))
theorem s_Once_at (l : List (List UInt8)) : s_Once [.sl (sls l)] = (l.length ≤ 1000000000, .bool (onceF l)) := spec1_at inj_Ss _ l
theorem ok_noriaref04_Once : OkP Tryz.prog 37 s_Once := by
  refine OkP.mk1 (ps := []) (hs := []) trivial trivial m_noriaref04_Once fun l h => ?_
  try dsimp only at h
  (have hcondQ := Bool.and_self; refine Todo.of ?_); (repeat' (first | ((with_reducible refine Todo.to ?_); (repeat (simp only [↓rP, rT, dvalX, dval, d_noriaref04_Once, eSs ])))))
  refine dwp_each l (fun k (_ : Unit) => ⟨[(0, .sl (sls l)), (3, .int .i64 k)], []⟩) (fun k r _ => (l.take k).Pairwise (· ≠ ·)) () (Nat.zero_le _) (by simp only [cut_some, List.map_cons, List.map_nil, get_cons, Nk.get_nil, ↓reduceIte, DV.cut, DV.inB, List.take_nil, reduceCtorEq] <;> rfl) (by simp) (fun k x r _ d hx hd hr => ?_) (fun k _ e hr => ?_)
  · have hl : (l.take k).length = k := by simp; omega
    (have hcondQ := Bool.and_self; refine Todo.of ?_); (repeat' (first | ((with_reducible refine Todo.to ?_); (repeat (simp only [↓rP, rT, rU, dvalX, dval, dBin, dInt, Nat.reduceEqDiff, ↓reduceIte, reduceCtorEq, sls_len, d ])))))
    refine dwp_each (l.take k) (fun j (_ : Unit) => ⟨[(0, .sl (sls l)), (3, .int .i64 k), (4, .int .i64 j)], []⟩) (fun j r _ => (∀ y ∈ l.take k, y ∈ r ∨ y ≠ x)) () (Nat.zero_le _) (by simp only [cut_some, List.map_cons, List.map_nil, get_cons, Nk.get_nil, Nat.reduceEqDiff, ↓reduceIte, DV.cut, DV.inB, List.take_nil, reduceCtorEq] <;> rfl) (fun y hy => .inl hy) (fun j y r _ d2 hy hd2 hr2 => ?_) (fun j _ e hr2 => ?_)
    · have hj : j < k := by omega
      rw [List.getElem?_take, if_pos hj] at hy
      have d3 : j < l.length := by omega
      (have hcondQ := Bool.and_self; refine Todo.of ?_); (repeat' (first | ((with_reducible refine Todo.to ?_); (repeat (first | (simp only [↓rP, rT, rU, dvalX, dval, dBin, dInt, dStr, dLoad, cellsAt, retV, DR.val, fzT, fzV, fz1, DV.immB, Nat.reduceEqDiff, ↓reduceIte, reduceCtorEq, sls_len, d, d3, hj, slsAt hx, slsAt hy , hcondQ]) | ((simp (disch := omega) only [i64_id]))))) | ((with_reducible refine And.intro ?_ ?_); · omega) | (((((with_reducible refine dwp_condI (t := ?_) ?_ (fun hcQ => ?_) (fun hcQ => ?_)); rotate_left; · (rfl))) <;> (have hn := hcQ; have hcondQ := hcQ) <;> (try simp only [beq_iff_eq, ne_eq, beq_eq_false_iff_ne] at hn) <;> (refine Todo.of ?_))) | fail))
      · have e : y = x := by simpa using hn
        subst e
        rw [once_not hx hj hy]
      · have e : y ≠ x := by simpa using hn
        exact ⟨(), by simp only [cut_some, List.map_cons, List.map_nil, get_cons, Nk.get_nil, Nat.reduceEqDiff, ↓reduceIte, DV.cut, DV.inB, List.take_nil, reduceCtorEq, Int.natCast_add, Int.natCast_one] <;> rfl, fun z hz => by rcases hr2 z hz with h | h; rcases List.mem_cons.1 h with rfl | h; exact .inr e; exact .inl h; exact .inr h⟩
    · have hj : ¬ j < k := by omega
      (have hcondQ := Bool.and_self; refine Todo.of ?_); (repeat' (first | ((with_reducible refine Todo.to ?_); (repeat (first | (simp only [↓rP, rT, rU, dvalX, dval, dBin, dInt, Nat.reduceEqDiff, ↓reduceIte, reduceCtorEq, hj ]) | ((simp (disch := omega) only [i64_id])))))))
      exact ⟨(), by simp only [cut_some, List.map_cons, List.map_nil, get_cons, Nk.get_nil, ↓reduceIte, DV.cut, DV.inB, List.take_nil, reduceCtorEq, Int.natCast_add, Int.natCast_one] <;> rfl, (once_take hx).2 ⟨hr, fun y hy => (hr2 y hy).elim (fun h => by cases h) id⟩⟩
  · rw [e, List.take_length] at hr
    have : onceF l = true := decide_eq_true hr
    (have hcondQ := Bool.and_self; refine Todo.of ?_); (repeat' (first | ((with_reducible refine Todo.to ?_); (repeat (simp only [↓rP, rT, rU, dvalX, dval, dBin, dInt, retV, DR.val, fzT, fzV, fz1, DV.immB, Nat.reduceEqDiff, ↓reduceIte, reduceCtorEq, sls_len, e, this ])))))
end Go.Proofs.YtjgefhgkinocmaaGreat

/- Which enums may be, by the document. -/
set_option linter.all false
set_option maxRecDepth 20000
namespace Go.Proofs.YtjgefhgkinocmaaGreat
open Go.Nk

def wrongE (e : En) : Bool := !lowF e.name || e.ct.length == 0
def namesF (l : List En) : List (List UInt8) := l.map (·.name)
def ctorsA (l : List En) : List (List UInt8) := (l.map (·.ct)).flatten
theorem ctorsA_cons (e : En) (l : List En) : ctorsA (e :: l) = e.ct ++ ctorsA l := by simp [ctorsA]
theorem namesF_nil : namesF [] = [] := rfl
theorem ctorsA_nil : ctorsA [] = [] := rfl
def manyF (l : List En) : Bool := decide (4 < l.length) || l.any fun e => decide (6 < e.ct.length)
def enumsF (l : List En) : Int := if manyF l then 4 else if l.any wrongE then 1 else if (ctorsA l).any (fun c => !highF c) then 1 else if onceF (namesF l) && onceF (ctorsA l) then 0 else 6
noncomputable def s_EnumsF : List DV → Prop × DV := spec1 eEns fun l => (True, .int .i64 (enumsF l))
theorem s_EnumsF_at (l : List En) : s_EnumsF [.sl (l.map cEn)] = (True, .int .i64 (enumsF l)) := spec1_at inj_Ens _ l
theorem ok_noriaref05_Enums : OkP Tryz.prog 33 s_EnumsF := by
  refine OkP.mk1 (ps := [(35, s_Low), (60, s_High), (37, s_Once)]) (hs := []) ⟨ok_noriaref04_Low, ok_noriaref04_High, ok_noriaref04_Once, trivial⟩ trivial m_noriaref05_Enums fun l _ => ?_
  by_cases q : 4 < l.length
  · have hr : enumsF l = 4 := by simp [enumsF, manyF, q]
    (have hcondQ := Bool.and_self; refine Todo.of ?_); (repeat' (first | ((with_reducible refine Todo.to ?_); (repeat (simp only [↓rP, rT, rU, eL, dvalX, dval, dBin, dInt, retV, DR.val, fzT, fzV, fz1, DV.immB, fzLL, Nat.reduceEqDiff, ↓reduceIte, reduceCtorEq, forall_const, d_noriaref05_Enums, eEns, hr , hcondQ]))) | (((((with_reducible refine dwp_condI (t := ?_) ?_ (fun hcQ => ?_) (fun hcQ => ?_)); rotate_left; · (rfl))) <;> (have hn := hcQ; have hcondQ := hcQ) <;> (try simp only [decide_eq_true_eq, decide_eq_false_iff_not] at hn) <;> (try (exfalso; omega)) <;> (refine Todo.of ?_))) | fail))
  (have hcondQ := Bool.and_self; refine Todo.of ?_); (repeat' (first | ((with_reducible refine Todo.to ?_); (repeat (simp only [↓rP, rT, rU, eL, dvalX, dval, dBin, dInt, fzLL, Nat.reduceEqDiff, ↓reduceIte, reduceCtorEq, forall_const, d_noriaref05_Enums, eEns, hcondQ]))) | (((((with_reducible refine dwp_condI (t := ?_) ?_ (fun hcQ => ?_) (fun hcQ => ?_)); rotate_left; · (rfl))) <;> (have hn := hcQ; have hcondQ := hcQ) <;> (try simp only [decide_eq_true_eq, decide_eq_false_iff_not] at hn) <;> (try (exfalso; omega)) <;> (refine Todo.of ?_))) | fail))
  refine dwp_each l (fun k (s : List (List UInt8) × List (List UInt8)) => ⟨[(0, .sl (l.map cEn)), (3, .own 0 s.1.length 0 s.1.length), (4, .own 1 s.2.length 0 s.2.length), (5, .int .i64 k)], [⟨.imm, 1, sls s.1⟩, ⟨.imm, 1, sls s.2⟩]⟩)
    (fun k r s => s.1 ++ namesF r = namesF l ∧ s.2 ++ ctorsA r = ctorsA l ∧ (r.any fun e => decide (6 < e.ct.length)) = (l.any fun e => decide (6 < e.ct.length)) ∧ s.1.length = k ∧ s.2.length ≤ 6 * k) ([], []) (Nat.zero_le _) (by simp only [cut_some, List.map_cons, List.map_nil, get_cons, Nk.get_nil, Nat.reduceEqDiff, ↓reduceIte, DV.cut, DV.inB, DObj.cut, List.take_nil, reduceCtorEq, decide_true, Nat.reduceLT, List.take_succ_cons, List.length_nil] <;> rfl) ⟨rfl, rfl, rfl, rfl, by simp⟩ (fun k x r s d hx hd hr => ?_) (fun k s e hr => ?_)
  · obtain ⟨o, c⟩ := s
    obtain ⟨g1, g2, g3, g4, g5⟩ := hr
    simp only [namesF, List.map_cons, ctorsA_cons, List.any_cons] at g1 g2 g3 g4 g5
    (have hcondQ := Bool.and_self; refine Todo.of ?_); (repeat' (first | ((with_reducible refine Todo.to ?_); (repeat (first | (simp only [↓rP, rT, rU, dvalX, dval, dBin, dInt, dLoad, cellsAt, retV, DR.val, fzT, fzV, fz1, DV.immB, elemsOf, dAppend, fzLL, fzL, bRow, bU, cellsOf, DV.isU, lenMax, Nat.reduceEqDiff, Nat.reduceAdd, ↓reduceIte, reduceCtorEq, Nat.reduceLeDiff, Nat.reduceLT, forall_const, sls_len, sls_rowsT, d, map_getD cEn hx, sls_append, sls_snoc , hcondQ]) | ((simp (disch := omega) only [i64_id]))))) | ((with_reducible refine And.intro ?_ ?_); · omega) | (((((with_reducible refine dwp_condI (t := ?_) ?_ (fun hcQ => ?_) (fun hcQ => ?_)); rotate_left; · (rfl))) <;> (have hn := hcQ; have hcondQ := hcQ) <;> (try simp only [decide_eq_true_eq, decide_eq_false_iff_not] at hn) <;> (refine Todo.of ?_))) | fail))
    all_goals first
      | (refine ⟨(o ++ [x.name], c ++ x.ct), by simp only [cut_some, List.map_cons, List.map_nil, get_cons, Nk.get_nil, Nat.reduceEqDiff, ↓reduceIte, DV.cut, DV.inB, DObj.cut, List.take_nil, reduceCtorEq, decide_true, Nat.reduceLT, List.take_succ_cons, Int.natCast_add, Int.natCast_one, List.length_append, List.length_cons, List.length_nil, Nat.zero_add] <;> rfl, ?_, ?_, ?_, ?_, ?_⟩
         · simpa [namesF] using g1
         · simpa using g2
         · rw [← g3]; simp; omega
         · simp; omega
         · simp; omega)
      | (have : manyF l = true := by
           simp only [manyF, Bool.or_eq_true]
           refine .inr ?_
           rw [← g3]
           simp; omega
         simp [enumsF, this])
  obtain ⟨o, c⟩ := s
  obtain ⟨g1, g2, g3, g4, g5⟩ := hr
  simp only [namesF_nil, ctorsA_nil, List.append_nil, List.any_nil] at g1 g2 g3 g4 g5
  have hm : manyF l = false := by simp [manyF, q, ← g3]
  have hr : enumsF l = if l.any wrongE then 1 else if (ctorsA l).any (fun c => !highF c) then 1 else if onceF (namesF l) && onceF (ctorsA l) then 0 else 6 := by simp [enumsF, hm]
  rw [hr]
  subst g1 g2
  have b1 : (namesF l).length ≤ 4 := by omega
  have b2 : (ctorsA l).length ≤ 24 := by omega
  (have hcondQ := Bool.and_self; refine Todo.of ?_); (repeat' (first | ((with_reducible refine Todo.to ?_); (repeat (simp only [↓rP, rT, rU, dvalX, dval, dBin, dInt, Nat.reduceEqDiff, ↓reduceIte, reduceCtorEq, e ])))))
  refine dwp_each l (fun k (_ : Unit) => ⟨[(0, .sl (l.map cEn)), (3, .own 0 (namesF l).length 0 (namesF l).length), (4, .own 1 (ctorsA l).length 0 (ctorsA l).length), (6, .int .i64 k)], [⟨.imm, 1, sls (namesF l)⟩, ⟨.imm, 1, sls (ctorsA l)⟩]⟩)
    (fun k r _ => r.any wrongE = l.any wrongE) () (Nat.zero_le _) (by simp only [cut_some, List.map_cons, List.map_nil, get_cons, Nk.get_nil, Nat.reduceEqDiff, ↓reduceIte, Nat.succ_ne_self, DV.cut, DV.inB, DObj.cut, List.take_nil, reduceCtorEq, decide_true, Nat.reduceLT, List.take_succ_cons] <;> rfl) rfl (fun k x r _ d hx hd hr => ?_) (fun k _ e hr => ?_)
  · simp only [List.any_cons] at hr
    (have hcondQ := Bool.and_self; refine Todo.of ?_); (repeat' (first | ((with_reducible refine Todo.to ?_); (repeat (first | (simp only [↓rP, rT, rU, dvalX, dval, dBin, dInt, dUn, dLoad, cellsAt, retV, DR.val, fzT, fzV, fz1, DV.immB, dCallP, viewVs, viewV, view1, noMemV, noMem, Nat.reduceEqDiff, Nat.reduceAdd, ↓reduceIte, reduceCtorEq, Nat.reduceLT, s_Low_at, sls_len, d, map_getD cEn hx , hcondQ]) | ((simp (disch := omega) only [i64_id]))))) | ((with_reducible refine And.intro ?_ ?_); · omega) | (((first | ((with_reducible refine dwp_condI (t := ?_) ?_ (fun hcQ => ?_) (fun hcQ => ?_)); rotate_left; · (rfl)) | ((with_reducible refine dops_guardI (t := ?_) ?_ (fun hcQ => ?_) (fun hcQ => ?_)); rotate_left; · (rfl))) <;> (have hn := hcQ; have hcondQ := hcQ) <;> (try simp only [beq_iff_eq, ne_eq, beq_eq_false_iff_ne, Bool.not_eq_true', Bool.not_eq_false'] at hn) <;> (refine Todo.of ?_))) | fail))
    all_goals first
      | exact ⟨(), by simp only [cut_some, List.map_cons, List.map_nil, get_cons, Nk.get_nil, Nat.reduceEqDiff, ↓reduceIte, Nat.succ_ne_self, DV.cut, DV.inB, DObj.cut, List.take_nil, reduceCtorEq, decide_true, Nat.reduceLT, List.take_succ_cons, Int.natCast_add, Int.natCast_one] <;> rfl, by rw [← hr]; grind [wrongE]⟩
      | (have : l.any wrongE = true := by rw [← hr]; grind [wrongE]
         simp [this])
  simp only [List.any_nil] at hr
  rw [← hr]
  (have hcondQ := Bool.and_self; refine Todo.of ?_); (repeat' (first | ((with_reducible refine Todo.to ?_); (repeat (simp only [↓rP, rT, rU, dvalX, dval, dBin, dInt, Nat.reduceEqDiff, ↓reduceIte, reduceCtorEq, e ])))))
  refine dwp_each (ctorsA l) (fun k (_ : Unit) => ⟨[(3, .own 0 (namesF l).length 0 (namesF l).length), (4, .own 1 (ctorsA l).length 0 (ctorsA l).length), (7, .int .i64 k)], [⟨.imm, 1, sls (namesF l)⟩, ⟨.imm, 1, sls (ctorsA l)⟩]⟩)
    (fun k r _ => (r.any fun c => !highF c) = ((ctorsA l).any fun c => !highF c)) () (Nat.zero_le _) (by simp only [cut_some, List.map_cons, List.map_nil, get_cons, Nk.get_nil, Nat.reduceEqDiff, ↓reduceIte, Nat.succ_ne_self, DV.cut, DV.inB, DObj.cut, List.take_nil, reduceCtorEq, decide_true, Nat.reduceLT, List.take_succ_cons] <;> rfl) rfl (fun k x r _ d hx hd hr => ?_) (fun k _ e hr => ?_)
  · simp only [List.any_cons] at hr
    (have hcondQ := Bool.and_self; refine Todo.of ?_); (repeat' (first | ((with_reducible refine Todo.to ?_); (repeat (first | (simp only [↓rP, rT, rU, dvalX, dval, dBin, dInt, dUn, dLoad, cellsAt, retV, DR.val, fzT, fzV, fz1, DV.immB, dCallP, viewVs, viewV, view1, noMemV, noMem, alive, Nat.reduceEqDiff, ↓reduceIte, reduceCtorEq, s_High_at, sls_len, d, slsAt hx , hcondQ]) | ((simp (disch := omega) only [i64_id]))))) | ((with_reducible refine And.intro ?_ ?_); · omega) | (((((with_reducible refine dwp_condI (t := ?_) ?_ (fun hcQ => ?_) (fun hcQ => ?_)); rotate_left; · (rfl))) <;> (have hn := hcQ; have hcondQ := hcQ) <;> (try simp only [Bool.not_eq_true', Bool.not_eq_false'] at hn) <;> (refine Todo.of ?_))) | fail))
    all_goals first
      | exact ⟨(), by simp only [cut_some, List.map_cons, List.map_nil, get_cons, Nk.get_nil, Nat.reduceEqDiff, ↓reduceIte, Nat.succ_ne_self, DV.cut, DV.inB, DObj.cut, List.take_nil, reduceCtorEq, decide_true, Nat.reduceLT, List.take_succ_cons, Int.natCast_add, Int.natCast_one] <;> rfl, by rw [← hr]; grind⟩
      | (have : ((ctorsA l).any fun c => !highF c) = true := by rw [← hr]; grind
         simp [this])
  simp only [List.any_nil] at hr
  rw [← hr]
  (have hcondQ := Bool.and_self; refine Todo.of ?_); (repeat' (first | ((with_reducible refine Todo.to ?_); (repeat (simp only [↓rP, rT, rU, dvalX, dval, dBin, dInt, dUn, retV, DR.val, fzT, fzV, fz1, DV.immB, dCallP, viewVs, viewV, view1, noMemV, noMem, elemsOf, alive, Nat.reduceEqDiff, ↓reduceIte, reduceCtorEq, s_Once_at, sls_len, sls_tk0, e , hcondQ]))) | ((with_reducible refine And.intro ?_ ?_); · omega) | (((first | ((with_reducible refine dwp_condI (t := ?_) ?_ (fun hcQ => ?_) (fun hcQ => ?_)); rotate_left; · (rfl)) | ((with_reducible refine dops_guardI (t := ?_) ?_ (fun hcQ => ?_) (fun hcQ => ?_)); rotate_left; · (rfl))) <;> (have hn := hcQ; have hcondQ := hcQ) <;> (try simp only [Bool.not_eq_true', Bool.not_eq_false'] at hn) <;> (refine Todo.of ?_))) | fail))
  all_goals grind
end Go.Proofs.YtjgefhgkinocmaaGreat

