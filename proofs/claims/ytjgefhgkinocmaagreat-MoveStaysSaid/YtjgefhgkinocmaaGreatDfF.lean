/- Where a path is; what becomes of a type. -/
import Derived.Test.YtjgefhgkinocmaaGreatDfA
import Derived.Test.YtjgefhgkinocmaaGreatTyM
import Derived.Test.YtjgefhgkinocmaaGreatTyT
set_option linter.all false
set_option maxRecDepth 20000
namespace Go.Proofs.YtjgefhgkinocmaaGreat
open Go.Nk
@[reducible] def eRS (s : List UInt8) : DV := .ref [.str s]
theorem inj_RS : Inj eRS := fun _ _ h => by simpa [eRS] using h
noncomputable def s_Fnd1 : List DV → Prop × DV := spec2 eSlt eRS fun c p => (True, .bool (decide (c.path = p)))
theorem s_Fnd1_at (c : Slt) (p : List UInt8) : s_Fnd1 [.agg (cSlt c), .ref [.str p]] = (True, .bool (decide (c.path = p))) := spec2_at inj_Slt inj_RS _ c p
theorem ok_tree_Find_1 : OkP Tryz.prog 77 s_Fnd1 := by
  refine OkP.mk2 (ps := []) (hs := []) trivial trivial m_tree_Find_1 fun c p _ => ?_
  (have hcondQ := Bool.and_self; refine Todo.of ?_); (repeat' (first | ((with_reducible refine Todo.to ?_); (repeat (simp only [↓rP, rT, rU, eA, dvalX, dval, dBin, dStr, dLoad, cellsAt, retV, DR.val, fzT, fzV, fz1, DV.immB, DV.one, alive, cellsOf, Nat.reduceEqDiff, Nat.reduceAdd, ↓reduceIte, reduceCtorEq, Nat.reduceLT, forall_const, d_tree_Find_1, eRS, eSlt ])))))
  all_goals (rw [Bool.eq_iff_iff]; simp)
@[reducible] def eCloFnd (s : List UInt8) : DV := .clo 77 [.ref [.str s]]
theorem inj_CloFnd : Inj eCloFnd := fun _ _ h => by simpa [eCloFnd] using h
/-- The place of the first that has a path. -/
def fndO (m : List Slt) (p : List UInt8) : Option Nat := m.findIdx? fun c => decide (c.path = p)
def fndI (m : List Slt) (p : List UInt8) : Int := match fndO m p with | some k => k | none => -1
noncomputable def s_IxS : List DV → Prop × DV := spec2 eSlts eCloFnd fun m p => (m.length ≤ 1000000, .int .i64 (fndI m p))
theorem s_IxS_at (m : List Slt) (p : List UInt8) : s_IxS [.sl (m.map cSlt), .clo 77 [.ref [.str p]]] = (m.length ≤ 1000000, .int .i64 (fndI m p)) := spec2_at inj_Slts inj_CloFnd _ m p
theorem ok_slices_IndexFunc_api_Slot_api_Slot : OkP Tryz.prog 76 s_IxS := by
  refine OkP.mk2 (ps := [(77, s_Fnd1)]) (hs := []) ⟨ok_tree_Find_1, trivial⟩ trivial m_slices_IndexFunc_api_Slot_api_Slot fun m p h => ?_
  try dsimp only at h
  have h : m.length ≤ 1000000 := h
  (have hcondQ := Bool.and_self; refine Todo.of ?_); (repeat' (first | ((with_reducible refine Todo.to ?_); (repeat (simp only [↓rP, rT, rU, eL, dvalX, dval, ↓reduceIte, reduceCtorEq, Int.reduceNeg, d_slices_IndexFunc_api_Slot_api_Slot, eCloFnd, eSlts ])))))
  refine dwp_each m (fun k (_ : Unit) => ⟨[(0, .sl (m.map cSlt)), (1, .clo 77 [.ref [.str p]]), (7, .int .i64 m.length), (8, .int .i64 k)], []⟩) (fun k r _ => (r.findIdx? fun c => decide (c.path = p)).map (· + k) = fndO m p) () (Nat.zero_le _) (by simp only [cut_some, List.map_cons, List.map_nil, get_cons, Nk.get_nil, Nat.reduceEqDiff, ↓reduceIte, Nat.succ_ne_self, DV.cut, DV.inB, List.take_nil, DV.inBL, Bool.and_true, reduceCtorEq] <;> rfl) (by simp [fndO]) (fun k x r _ d hx hd hr => ?_) (fun k _ e hr => ?_)
  · rw [List.findIdx?_cons] at hr
    have e1 := s_Fnd1_at x p
    simp only [cSlt] at e1
    (have hcondQ := Bool.and_self; refine Todo.of ?_); (repeat' (first | ((with_reducible refine Todo.to ?_); (repeat (first | (simp only [↓rP, rT, rU, dvalX, dval, dBin, dInt, dLoad, cellsAt, retV, DR.val, fzT, fzV, fz1, DV.immB, dCallP, viewVs, viewV, view1, viewL, noMemV, noMem, Nat.reduceEqDiff, Nat.reduceAdd, ↓reduceIte, reduceCtorEq, Nat.reduceLeDiff, Int.reduceNeg, d, map_getD cSlt hx, e1 , hcondQ]) | ((simp (disch := omega) only [i64_id]))))) | ((with_reducible refine And.intro ?_ ?_); · omega) | (((((with_reducible refine dwp_condI (t := ?_) ?_ (fun hcQ => ?_) (fun hcQ => ?_)); rotate_left; · (rfl))) <;> (have hn := hcQ; have hcondQ := hcQ) <;> (try simp only [decide_eq_true_eq, decide_eq_false_iff_not] at hn) <;> (refine Todo.of ?_))) | fail))
    all_goals first
      | (have e : x.path = p := by first | exact hn | simpa using hn
         simp [e] at hr
         simp [fndI, ← hr]; done)
      | (have e : x.path ≠ p := by first | exact hn | simpa using hn
         refine ⟨(), by simp only [cut_some, List.map_cons, List.map_nil, get_cons, Nk.get_nil, Nat.reduceEqDiff, ↓reduceIte, Nat.succ_ne_self, DV.cut, DV.inB, List.take_nil, DV.inBL, Bool.and_true, reduceCtorEq, Int.natCast_add, Int.natCast_one] <;> rfl, ?_⟩
         simp [e] at hr
         rw [← hr]
         congr 1
         funext y
         simp; omega)
  · simp only [List.findIdx?_nil, Option.map_none] at hr
    (have hcondQ := Bool.and_self; refine Todo.of ?_); (repeat' (first | ((with_reducible refine Todo.to ?_); (repeat (simp only [↓rP, rT, rU, dvalX, dval, dBin, dInt, retV, DR.val, fzT, fzV, fz1, DV.immB, Nat.reduceEqDiff, ↓reduceIte, reduceCtorEq, Int.reduceNeg, e, fndI, ← hr ])))))
noncomputable def s_Find : List DV → Prop × DV := spec2 eSlts eS fun m p => (m.length ≤ 1000000, .int .i64 (fndI m p))
theorem s_Find_at (m : List Slt) (p : List UInt8) : s_Find [.sl (m.map cSlt), .str p] = (m.length ≤ 1000000, .int .i64 (fndI m p)) := spec2_at inj_Slts inj_S _ m p
theorem ok_tree_Find : OkP Tryz.prog 48 s_Find := by
  refine OkP.mk2 (ps := [(76, s_IxS)]) (hs := []) ⟨ok_slices_IndexFunc_api_Slot_api_Slot, trivial⟩ trivial m_tree_Find fun m p h => ?_
  try dsimp only at h
  have h : m.length ≤ 1000000 := h
  have e1 := s_IxS_at m p
  rw [eq_true h] at e1
  (have hcondQ := Bool.and_self; refine Todo.of ?_); (repeat' (first | ((with_reducible refine Todo.to ?_); (repeat (simp only [↓rP, rT, rU, eS, eL, dvalX, dval, retV, DR.val, fzT, fzV, fz1, DV.immB, dCallP, viewVs, viewV, view1, capVL, capV, noMemV, noMem, DV.one, cellsOf, Nat.reduceEqDiff, ↓reduceIte, reduceCtorEq, forall_const, d_tree_Find, eSlts, e1 ])))))
theorem ok_noriaref27_Find : OkP Tryz.prog 29 s_Find := by
  refine OkP.mk2 (ps := []) (hs := []) trivial trivial m_noriaref27_Find fun m p h => ?_
  try dsimp only at h
  have h : m.length ≤ 1000000 := h
  (have hcondQ := Bool.and_self; refine Todo.of ?_); (repeat' (first | ((with_reducible refine Todo.to ?_); (repeat (simp only [↓rP, rT, eS, eL, dvalX, dval, Int.reduceNeg, d_noriaref27_Find, eSlts ])))))
  refine dwp_each m (fun k (_ : Unit) => ⟨[(0, .sl (m.map cSlt)), (1, .str p), (5, .int .i64 k)], []⟩) (fun k r _ => (r.findIdx? fun c => decide (c.path = p)).map (· + k) = fndO m p) () (Nat.zero_le _) (by simp only [cut_some, List.map_cons, List.map_nil, get_cons, Nk.get_nil, Nat.reduceEqDiff, ↓reduceIte, Nat.succ_ne_self, DV.cut, DV.inB, List.take_nil, reduceCtorEq] <;> rfl) (by simp [fndO]) (fun k x r _ d hx hd hr => ?_) (fun k _ e hr => ?_)
  · rw [List.findIdx?_cons] at hr
    (have hcondQ := Bool.and_self; refine Todo.of ?_); (repeat' (first | ((with_reducible refine Todo.to ?_); (repeat (first | (simp only [↓rP, rT, rU, dvalX, dval, dBin, dInt, dStr, dLoad, cellsAt, retV, DR.val, fzT, fzV, fz1, DV.immB, Nat.reduceEqDiff, Nat.reduceAdd, ↓reduceIte, reduceCtorEq, Nat.reduceLT, Int.reduceNeg, d, map_getD cSlt hx , hcondQ]) | ((simp (disch := omega) only [i64_id]))))) | ((with_reducible refine And.intro ?_ ?_); · omega) | (((((with_reducible refine dwp_condI (t := ?_) ?_ (fun hcQ => ?_) (fun hcQ => ?_)); rotate_left; · (rfl))) <;> (have hn := hcQ; have hcondQ := hcQ) <;> (try simp only [beq_iff_eq, ne_eq, beq_eq_false_iff_ne] at hn) <;> (refine Todo.of ?_))) | fail))
    all_goals first
      | (have e : x.path = p := by first | exact hn | simpa using hn
         simp [e] at hr
         simp [fndI, ← hr]; done)
      | (have e : x.path ≠ p := by first | exact hn | simpa using hn
         refine ⟨(), by simp only [cut_some, List.map_cons, List.map_nil, get_cons, Nk.get_nil, Nat.reduceEqDiff, ↓reduceIte, Nat.succ_ne_self, DV.cut, DV.inB, List.take_nil, reduceCtorEq, Int.natCast_add, Int.natCast_one] <;> rfl, ?_⟩
         simp [e] at hr
         rw [← hr]
         congr 1
         funext y
         simp; omega)
  · simp only [List.findIdx?_nil, Option.map_none] at hr
    (have hcondQ := Bool.and_self; refine Todo.of ?_); (repeat' (first | ((with_reducible refine Todo.to ?_); (repeat (simp only [↓rP, rT, rU, dvalX, dval, dBin, dInt, retV, DR.val, fzT, fzV, fz1, DV.immB, Nat.reduceEqDiff, ↓reduceIte, reduceCtorEq, Int.reduceNeg, e, fndI, ← hr ])))))

def oneT (t : Ty) : Ty := ⟨t.k, t.e, 0⟩
noncomputable def s_OneT : List DV → Prop × DV := spec1 eTy fun t => (True, .agg (cTy (oneT t)))
theorem s_OneT_at (t : Ty) : s_OneT [.agg (cTy t)] = (True, .agg (cTy (oneT t))) := spec1_at inj_Ty _ t
theorem ok_ty_One : OkP Tryz.prog 107 s_OneT := by
  refine OkP.mk1 (ps := []) (hs := []) trivial trivial m_ty_One fun t _ => ?_
  (have hcondQ := Bool.and_self; refine Todo.of ?_); (repeat' (first | ((with_reducible refine Todo.to ?_); (repeat (simp only [↓rP, rT, rU, eA, dvalX, dval, dLoad, cellsAt, retV, DR.val, fzT, fzV, fz1, DV.immB, dStore, DV.one, alive, fzL, cellsOf, setFrom, Nat.reduceEqDiff, Nat.reduceAdd, ↓reduceIte, reduceCtorEq, Nat.reduceLeDiff, forall_const, d_ty_One, eTy, oneT ])))))
/-- A type of old, in next. -/
def hereG (a b : List En) (t : Ty) : List En → Int → Ty × Bool
  | [], _ => (⟨0, 0, 0⟩, false)
  | _ :: r, i => if alikeF a (oneT t) b ⟨3, i, 0⟩ then (⟨3, i, t.n⟩, true) else hereG a b t r (i + 1)
theorem hereG_yes {a b : List En} {t : Ty} {x : En} {r : List En} {k : Int} (h : alikeF a (oneT t) b ⟨3, k, 0⟩ = true) : hereG a b t (x :: r) k = (⟨3, k, t.n⟩, true) := by simp [hereG, h]
theorem hereG_no {a b : List En} {t : Ty} {x : En} {r : List En} {k : Int} (h : alikeF a (oneT t) b ⟨3, k, 0⟩ = false) : hereG a b t (x :: r) k = hereG a b t r (k + 1) := by simp [hereG, h]
def hereF (a b : List En) (t : Ty) : Ty × Bool := if rightTy a t then (if t.k = 3 then hereG a b t b 0 else (t, true)) else (⟨0, 0, 0⟩, false)
noncomputable def s_Here : List DV → Prop × DV := spec3 eEns eEns eTy fun a b t => (fewEn a ∧ fewEn b ∧ b.length ≤ 1000000, .tup [.agg (cTy (hereF a b t).1), .bool (hereF a b t).2])
theorem s_Here_at (a : List En) (b : List En) (t : Ty) : s_Here [.sl (a.map cEn), .sl (b.map cEn), .agg (cTy t)] = (fewEn a ∧ fewEn b ∧ b.length ≤ 1000000, .tup [.agg (cTy (hereF a b t).1), .bool (hereF a b t).2]) := spec3_at inj_Ens inj_Ens inj_Ty _ a b t
theorem ok_mtype_Here : OkP Tryz.prog 75 s_Here := by
  refine OkP.mk3 (ps := [(105, s_RightTy), (107, s_OneT), (106, s_Alike)]) (hs := []) ⟨ok_RightTy, ok_ty_One, ok_Alike, trivial⟩ trivial m_mtype_Here fun a b t h => ?_
  try dsimp only at h
  obtain ⟨h1, h2, h3⟩ := h
  have e1 := s_RightTy_at a t
  simp only [cTy] at e1
  by_cases q : rightTy a t = true
  rotate_left
  · have hr : hereF a b t = (⟨0, 0, 0⟩, false) := by simp [hereF, q]
    rw [Bool.not_eq_true] at q
    rw [q] at e1
    (have hcondQ := Bool.and_self; refine Todo.of ?_); (repeat' (first | ((with_reducible refine Todo.to ?_); (repeat (simp only [↓rP, rT, rU, eL, eA, buildCells, dvalX, dval, dUn, dLoad, cellsAt, retV, retL, DR.val, fzT, fzVs, fzV, fz1, DV.immB, dCallP, viewVs, viewV, view1, viewL, noMemV, noMem, dStore, DV.one, fzL, cellsOf, setFrom, Nat.reduceEqDiff, Nat.reduceAdd, ↓reduceIte, reduceCtorEq, Nat.reduceLeDiff, forall_const, d_mtype_Here, eEns, eTy, hr, e1 ])))))
  rw [q] at e1
  by_cases k3 : t.k = 3
  rotate_left
  · have hr : hereF a b t = (t, true) := by simp [hereF, q, k3]
    (have hcondQ := Bool.and_self; refine Todo.of ?_); (repeat' (first | ((with_reducible refine Todo.to ?_); (repeat (simp only [↓rP, rT, rU, eL, eA, dvalX, dval, dBin, dInt, dUn, dLoad, cellsAt, retV, retL, DR.val, fzT, fzVs, fzV, fz1, DV.immB, dCallP, viewVs, viewV, view1, viewL, noMemV, noMem, dStore, DV.one, alive, fzL, cellsOf, setFrom, Nat.reduceEqDiff, Nat.reduceAdd, ↓reduceIte, reduceCtorEq, Nat.reduceLeDiff, Nat.reduceLT, forall_const, d_mtype_Here, eEns, eTy, hr, e1 , hcondQ]))) | (((((with_reducible refine dwp_condI (t := ?_) ?_ (fun hcQ => ?_) (fun hcQ => ?_)); rotate_left; · (rfl))) <;> (have hn := hcQ; have hcondQ := hcQ) <;> (try simp only [bne_iff_ne, ne_eq, bne_eq_false_iff_eq] at hn) <;> (try (exfalso; omega)) <;> (refine Todo.of ?_))) | fail))
  have hr : hereF a b t = hereG a b t b 0 := by simp [hereF, q, k3]
  obtain ⟨tk, te, tn⟩ := t
  simp only at k3
  subst k3
  rw [hr]
  (have hcondQ := Bool.and_self; refine Todo.of ?_); (repeat' (first | ((with_reducible refine Todo.to ?_); (repeat (simp only [↓rP, rT, rU, eL, eA, dvalX, dval, dBin, dInt, dUn, dLoad, cellsAt, DV.immB, dCallP, viewVs, viewV, view1, viewL, noMemV, noMem, DV.one, alive, cellsOf, Nat.reduceEqDiff, Nat.reduceAdd, ↓reduceIte, reduceCtorEq, Nat.reduceLeDiff, Nat.reduceLT, forall_const, d_mtype_Here, eEns, eTy, e1 ])))))
  refine dwp_each b (fun k (_ : Unit) => ⟨[(0, .sl (a.map cEn)), (1, .sl (b.map cEn)), (5, .ptr 0 1 0 0), (6, .ptr 1 1 0 0), (19, .int .i64 b.length), (20, .int .i64 k)], [⟨.loc, 3, [cTy ⟨3, te, tn⟩]⟩, ⟨.loc, 3, [[.int .i64 0, .int .i64 0, .int .i64 0]]⟩]⟩) (fun k r _ => hereG a b ⟨3, te, tn⟩ r k = hereG a b ⟨3, te, tn⟩ b 0) () (Nat.zero_le _) (by simp only [cut_some, List.map_cons, List.map_nil, get_cons, Nk.get_nil, Nat.reduceEqDiff, ↓reduceIte, Nat.succ_ne_self, DV.cut, DV.inB, DObj.cut, List.take_nil, reduceCtorEq, decide_true, Nat.reduceLT, List.take_succ_cons] <;> rfl) rfl (fun k x r _ d hx hd hr2 => ?_) (fun k _ e hr2 => ?_)
  · have e2 := s_Alike_at a (oneT ⟨3, te, tn⟩) b ⟨3, (k : Int), 0⟩
    rw [eq_true (show fewEn a ∧ fewEn b from ⟨h1, h2⟩)] at e2
    have e3 := s_OneT_at ⟨3, te, tn⟩
    cases qa : alikeF a (oneT ⟨3, te, tn⟩) b ⟨3, (k : Int), 0⟩ <;> rw [qa] at e2 <;> simp only [cTy, oneT] at e2 e3
    · rw [hereG_no qa] at hr2
      (have hcondQ := Bool.and_self; refine Todo.of ?_); (repeat' (first | ((with_reducible refine Todo.to ?_); (repeat (first | (simp only [↓rP, rT, rU, buildCells, dvalX, dval, dBin, dInt, dLoad, cellsAt, DV.immB, dCallP, viewVs, viewV, view1, viewL, noMemV, noMem, cellsOf, setFrom, DV.isU, Nat.reduceEqDiff, Nat.reduceAdd, ↓reduceIte, reduceCtorEq, Nat.reduceLeDiff, d, e2, e3 , hcondQ]) | ((simp (disch := omega) only [i64_id])))))))
      exact ⟨(), by simp only [cut_some, List.map_cons, List.map_nil, get_cons, Nk.get_nil, Nat.reduceEqDiff, ↓reduceIte, Nat.succ_ne_self, DV.cut, DV.inB, DObj.cut, List.take_nil, reduceCtorEq, decide_true, Nat.reduceLT, List.take_succ_cons, Int.natCast_add, Int.natCast_one] <;> rfl, by rw [← hr2]; rfl⟩
    · rw [hereG_yes qa] at hr2
      rw [← hr2]
      (have hcondQ := Bool.and_self; refine Todo.of ?_); (repeat' (first | ((with_reducible refine Todo.to ?_); (repeat (simp only [↓rP, rT, rU, buildCells, dvalX, dval, dBin, dInt, dLoad, cellsAt, retV, retL, DR.val, fzT, fzVs, fzV, fz1, DV.immB, dCallP, viewVs, viewV, view1, viewL, noMemV, noMem, dStore, DV.one, alive, fzL, cellsOf, setFrom, DV.isU, Nat.reduceEqDiff, Nat.reduceAdd, ↓reduceIte, reduceCtorEq, Nat.reduceLeDiff, forall_const, d, e2, e3 , hcondQ])))))
  · simp only [hereG] at hr2
    rw [← hr2]
    (have hcondQ := Bool.and_self; refine Todo.of ?_); (repeat' (first | ((with_reducible refine Todo.to ?_); (repeat (simp only [↓rP, rT, rU, buildCells, dvalX, dval, dBin, dInt, dLoad, cellsAt, retV, retL, DR.val, fzT, fzVs, fzV, fz1, DV.immB, dStore, DV.one, fzL, cellsOf, setFrom, Nat.reduceEqDiff, Nat.reduceAdd, ↓reduceIte, reduceCtorEq, Nat.reduceLeDiff, forall_const, e ])))))
end Go.Proofs.YtjgefhgkinocmaaGreat

/- What becomes of a path; of all paths. -/
set_option linter.all false
set_option maxRecDepth 20000
namespace Go.Proofs.YtjgefhgkinocmaaGreat
open Go.Nk

theorem fnd_range {m : List Slt} {p : List UInt8} (h : ¬ fndI m p < 0) : ∃ k : Nat, fndI m p = k ∧ k < m.length := by
  unfold fndI at h ⊢
  cases q : fndO m p with
  | none => rw [q] at h; simp at h
  | some k =>
    refine ⟨k, rfl, ?_⟩
    have := List.findIdx?_eq_some_iff_findIdx_eq.1 q
    exact this.1
def eqT (t u : Ty) : Bool := t.k == u.k && (t.e == u.e && t.n == u.n)
theorem aeqT (neg : Bool) (a b c a' b' c' : Int) : dAeq neg [0, 0, 0] (.agg [.int .i64 a, .int .i64 b, .int .i64 c]) (.agg [.int .i64 a', .int .i64 b', .int .i64 c']) = (True, .bool (if neg then !(eqT ⟨a, b, c⟩ ⟨a', b', c'⟩) else eqT ⟨a, b, c⟩ ⟨a', b', c'⟩)) := by
  have : eqCells [0, 0, 0] [.int .i64 a, .int .i64 b, .int .i64 c] [.int .i64 a', .int .i64 b', .int .i64 c'] = some (eqT ⟨a, b, c⟩ ⟨a', b', c'⟩) := by
    simp only [eqCells, if_true, eqT]
    cases (a == a') <;> cases (b == b') <;> cases (c == c') <;> rfl
  simp [dAeq, this]
def whatG (y : Ty × Bool) (t : Ty) : Int := if (y.2 && eqT y.1 t) = true then 1 else 2
theorem whatG_at (y t : Ty) (o : Bool) : whatG (y, o) t = if (o && eqT y t) = true then 1 else 2 := rfl
def whatF (a b : Img) (s : Slt) : Int := if fndI a.slots s.path < 0 then 3 else whatG (hereF a.en b.en (a.slots.getD (fndI a.slots s.path).toNat default).ty) s.ty
def dfImg (x : Img) : Prop := fewEn x.en ∧ x.en.length ≤ 1000000 ∧ x.slots.length ≤ 1000000
noncomputable def s_What : List DV → Prop × DV := spec3 eImg eImg eSlt fun a b s => (dfImg a ∧ dfImg b, .int .i64 (whatF a b s))
theorem s_What_at (a : Img) (b : Img) (s : Slt) : s_What [.agg (cImg a), .agg (cImg b), .agg (cSlt s)] = (dfImg a ∧ dfImg b, .int .i64 (whatF a b s)) := spec3_at inj_Img inj_Img inj_Slt _ a b s
theorem whatG_two (t : Ty) (u : Ty) : whatG (u, false) t = 2 := by simp [whatG]
theorem ok_differ_what : OkP Tryz.prog 47 s_What := by
  refine OkP.mk3 (ps := [(48, s_Find), (75, s_Here)]) (hs := []) ⟨ok_tree_Find, ok_mtype_Here, trivial⟩ trivial m_differ_what fun a b s h => ?_
  try dsimp only at h
  obtain ⟨⟨h1, h2, h3⟩, h4, h5, h6⟩ := h
  have e1 := s_Find_at a.slots s.path
  rw [eq_true h3] at e1
  by_cases q : fndI a.slots s.path < 0
  · have hr : whatF a b s = 3 := by simp [whatF, q]
    (have hcondQ := Bool.and_self; refine Todo.of ?_); (repeat' (first | ((with_reducible refine Todo.to ?_); (repeat (simp only [↓rP, rT, rU, eA, dvalX, dval, dBin, dInt, dLoad, cellsAt, retV, DR.val, fzT, fzV, fz1, DV.immB, dCallP, viewVs, viewV, view1, noMemV, noMem, cellsOf, Nat.reduceEqDiff, Nat.reduceAdd, ↓reduceIte, reduceCtorEq, Nat.reduceLT, d_differ_what, eImg, eSlt, e1, hr , hcondQ]))) | (((((with_reducible refine dwp_condI (t := ?_) ?_ (fun hcQ => ?_) (fun hcQ => ?_)); rotate_left; · (rfl))) <;> (have hn := hcQ; have hcondQ := hcQ) <;> (try simp only [decide_eq_true_eq, decide_eq_false_iff_not] at hn) <;> (try (exfalso; omega)) <;> (refine Todo.of ?_))) | fail))
  obtain ⟨k, hk, lk⟩ := fnd_range q
  have hr : whatF a b s = whatG (hereF a.en b.en (a.slots.getD k default).ty) s.ty := by
    simp only [whatF, hk, Int.toNat_natCast]
    rw [if_neg (by omega)]
  have g1 := slt_getD lk
  rw [hk] at e1
  rw [hr]
  clear hr
  generalize a.slots.getD k default = x at *
  have e2 := s_Here_at a.en b.en x.ty
  rw [eq_true (show fewEn a.en ∧ fewEn b.en ∧ b.en.length ≤ 1000000 from ⟨h1, h4, h5⟩)] at e2
  generalize hereF a.en b.en x.ty = y at *
  obtain ⟨⟨yk, ye, yn⟩, yo⟩ := y
  simp only [cTy] at e2
  have k0 : decide ((k : Int) < 0) = false := by simp
  obtain ⟨sp, ⟨sk, se, sn⟩, sa, si⟩ := s
  cases yo
  · (have hcondQ := Bool.and_self; refine Todo.of ?_); (repeat' (first | ((with_reducible refine Todo.to ?_); (repeat (simp only [↓rP, rT, rU, eA, dvalX, dval, dBin, dInt, dUn, dLoad, cellsAt, retV, DR.val, fzT, fzVs, fzV, fz1, DV.immB, dCallP, viewVs, viewV, view1, viewL, noMemV, noMem, dStore, DV.one, fzL, cellsOf, setFrom, Nat.reduceEqDiff, Nat.reduceAdd, ↓reduceIte, reduceCtorEq, Nat.reduceLeDiff, Nat.reduceLT, forall_const, d_differ_what, eImg, eSlt, e1, e2, g1, whatG_two, k0 , hcondQ]))) | ((with_reducible refine And.intro ?_ ?_); · omega) | fail)) <;> (try (assumption))
  · cases q2 : eqT ⟨yk, ye, yn⟩ ⟨sk, se, sn⟩
    · (have hcondQ := Bool.and_self; refine Todo.of ?_); (repeat' (first | ((with_reducible refine Todo.to ?_); (repeat (simp only [↓rP, rT, rU, eA, dvalX, dval, dBin, dInt, dUn, dLoad, cellsAt, retV, DR.val, fzT, fzVs, fzV, fz1, DV.immB, dCallP, viewVs, viewV, view1, viewL, noMemV, noMem, dStore, DV.one, fzL, cellsOf, setFrom, Nat.reduceEqDiff, Nat.reduceAdd, ↓reduceIte, reduceCtorEq, Nat.reduceLeDiff, Nat.reduceLT, forall_const, d_differ_what, eImg, eSlt, e1, e2, g1, aeqT, q2, k0, whatG_at, Bool.false_eq_true, hcondQ]))) | ((with_reducible refine And.intro ?_ ?_); · omega) | fail)) <;> (try (assumption))
    · (have hcondQ := Bool.and_self; refine Todo.of ?_); (repeat' (first | ((with_reducible refine Todo.to ?_); (repeat (simp only [↓rP, rT, rU, eA, dvalX, dval, dBin, dInt, dUn, dLoad, cellsAt, retV, DR.val, fzT, fzVs, fzV, fz1, DV.immB, dCallP, viewVs, viewV, view1, viewL, noMemV, noMem, dStore, DV.one, fzL, cellsOf, setFrom, Nat.reduceEqDiff, Nat.reduceAdd, ↓reduceIte, reduceCtorEq, Nat.reduceLeDiff, Nat.reduceLT, forall_const, d_differ_what, eImg, eSlt, e1, e2, g1, aeqT, q2, k0, whatG_at, Bool.false_eq_true, hcondQ]))) | ((with_reducible refine And.intro ?_ ?_); · omega) | fail)) <;> (try (assumption))
/-- What becomes of all paths. -/
def newF (a b : Img) : List Chg := b.slots.map fun s => ⟨s.path, whatF a b s⟩
def goneF (b : Img) (l : List Slt) : List Chg := (l.filter fun s => decide (fndI b.slots s.path < 0)).map fun s => ⟨s.path, 4⟩
def diffF (a b : Img) : List Chg := newF a b ++ goneF b a.slots
noncomputable def s_Diff : List DV → Prop × DV := spec2 eImg eImg fun a b => (dfImg a ∧ dfImg b, .sl ((diffF a b).map cChg))
theorem s_Diff_at (a : Img) (b : Img) : s_Diff [.agg (cImg a), .agg (cImg b)] = (dfImg a ∧ dfImg b, .sl ((diffF a b).map cChg)) := spec2_at inj_Img inj_Img _ a b
theorem goneF_yes {b : Img} {x : Slt} {r : List Slt} (h : fndI b.slots x.path < 0) : goneF b (x :: r) = ⟨x.path, 4⟩ :: goneF b r := by simp [goneF, h]
theorem goneF_no {b : Img} {x : Slt} {r : List Slt} (h : ¬ fndI b.slots x.path < 0) : goneF b (x :: r) = goneF b r := by
  simp only [goneF, List.filter_cons, decide_eq_true_eq, if_neg h]
theorem ok_differ_Diff : OkP Tryz.prog 22 s_Diff := by
  refine OkP.mk2 (ps := [(47, s_What), (48, s_Find)]) (hs := []) ⟨ok_differ_what, ok_tree_Find, trivial⟩ trivial m_differ_Diff fun a b h => ?_
  try dsimp only at h
  obtain ⟨ha, hb⟩ := h
  (have hcondQ := Bool.and_self; refine Todo.of ?_); (repeat' (first | ((with_reducible refine Todo.to ?_); (repeat (simp only [↓rP, rT, rU, eA, dvalX, dval, dLoad, cellsAt, DV.one, alive, cellsOf, Nat.reduceEqDiff, Nat.reduceAdd, ↓reduceIte, reduceCtorEq, Nat.reduceLT, forall_const, d_differ_Diff, eImg ])))))
  refine dwp_each b.slots (fun k (o : List Chg) => ⟨[(2, .ptr 0 1 0 0), (3, .ptr 1 1 0 0), (5, .own 2 o.length 0 o.length), (11, .sl (b.slots.map cSlt)), (12, .int .i64 b.slots.length), (13, .int .i64 k)], [⟨.loc, 6, [cImg a]⟩, ⟨.loc, 6, [cImg b]⟩, ⟨.imm, 2, o.map cChg⟩]⟩) (fun k r o => o ++ (r.map fun s => (⟨s.path, whatF a b s⟩ : Chg)) = newF a b ∧ o.length ≤ k) [] (Nat.zero_le _) (by simp only [cut_some, List.map_cons, List.map_nil, get_cons, Nk.get_nil, Nat.reduceEqDiff, ↓reduceIte, DV.cut, DV.inB, DObj.cut, List.take_nil, reduceCtorEq, decide_true, Nat.reduceLT, List.take_succ_cons, List.length_nil] <;> rfl) ⟨rfl, Nat.le_refl _⟩ (fun k x r o d hx hd hr => ?_) (fun k o e hr => ?_)
  · obtain ⟨g1, g2⟩ := hr
    have e1 := s_What_at a b x
    rw [eq_true (show dfImg a ∧ dfImg b from ⟨ha, hb⟩)] at e1
    have hl := hb.2.2
    simp only [cSlt, cImg] at e1
    (have hcondQ := Bool.and_self; refine Todo.of ?_); (repeat' (first | ((with_reducible refine Todo.to ?_); (repeat (first | (simp only [↓rP, rT, rU, buildCells, dvalX, dval, dBin, dInt, dLoad, cellsAt, fz1, DV.immB, dCallP, viewVs, viewV, view1, viewL, noMemV, noMem, elemsOf, dAppend, dStore, DV.one, alive, fzLL, fzL, bRow, bU, cellsOf, setFrom, DV.isU, lenMax, Nat.reduceEqDiff, Nat.reduceAdd, ↓reduceIte, reduceCtorEq, Nat.reduceLeDiff, Nat.reduceLT, forall_const, d, map_getD cSlt hx, e1, hcondQ]) | ((simp (disch := omega) only [i64_id]))))) | ((with_reducible refine And.intro ?_ ?_); · omega) | fail))
    exact ⟨o ++ [⟨x.path, whatF a b x⟩], by simp only [cut_some, List.map_cons, List.map_nil, get_cons, Nk.get_nil, Nat.reduceEqDiff, ↓reduceIte, Nat.succ_ne_self, DV.cut, DV.inB, DObj.cut, List.take_zero, reduceCtorEq, decide_true, Nat.reduceLT, List.take_succ_cons, Int.natCast_add, Int.natCast_one, List.length_append, List.length_cons, List.length_nil, Nat.zero_add, List.map_append] <;> rfl, by simpa using g1, by simp; omega⟩
  obtain ⟨g1, g2⟩ := hr
  simp only [List.map_nil, List.append_nil] at g1
  subst g1
  have hl := ha.2.2
  have hn : (newF a b).length ≤ 1000000 := by have := hb.2.2; simp only [newF, List.length_map]; exact this
  (have hcondQ := Bool.and_self; refine Todo.of ?_); (repeat' (first | ((with_reducible refine Todo.to ?_); (repeat (simp only [↓rP, rT, rU, dvalX, dval, dBin, dInt, dLoad, cellsAt, alive, Nat.reduceEqDiff, Nat.reduceAdd, ↓reduceIte, reduceCtorEq, Nat.reduceLT, e ])))))
  refine dwp_each a.slots (fun k (o : List Chg) => ⟨[(3, .ptr 1 1 0 0), (5, .own 2 o.length 0 o.length), (29, .sl (a.slots.map cSlt)), (30, .int .i64 a.slots.length), (31, .int .i64 k)], [⟨.loc, 6, [cImg a]⟩, ⟨.loc, 6, [cImg b]⟩, ⟨.imm, 2, o.map cChg⟩]⟩) (fun k r o => o ++ goneF b r = diffF a b ∧ o.length ≤ 1000000 + k) (newF a b) (Nat.zero_le _) (by simp only [cut_some, List.map_cons, List.map_nil, get_cons, Nk.get_nil, Nat.reduceEqDiff, ↓reduceIte, Nat.succ_ne_self, DV.cut, DV.inB, DObj.cut, List.take_nil, reduceCtorEq, decide_true, Nat.reduceLT, List.take_succ_cons] <;> rfl) ⟨rfl, hn⟩ (fun k x r o d hx hd hr => ?_) (fun k o e hr => ?_)
  · obtain ⟨g1, g2⟩ := hr
    have e1 := s_Find_at b.slots x.path
    rw [eq_true hb.2.2] at e1
    by_cases q : fndI b.slots x.path < 0
    · rw [goneF_yes q] at g1
      have q' := decide_eq_true q
      (have hcondQ := Bool.and_self; refine Todo.of ?_); (repeat' (first | ((with_reducible refine Todo.to ?_); (repeat (first | (simp only [↓rP, rT, rU, buildCells, dvalX, dval, dBin, dInt, dLoad, cellsAt, fz1, DV.immB, dCallP, viewVs, viewV, view1, noMemV, noMem, elemsOf, dAppend, dStore, DV.one, alive, fzLL, fzL, bRow, bU, cellsOf, setFrom, DV.isU, lenMax, Nat.reduceEqDiff, Nat.reduceAdd, ↓reduceIte, reduceCtorEq, Nat.reduceLeDiff, Nat.reduceLT, forall_const, d, map_getD cSlt hx, e1, q', hcondQ]) | ((simp (disch := omega) only [i64_id]))))) | ((with_reducible refine And.intro ?_ ?_); · omega) | fail))
      exact ⟨o ++ [⟨x.path, 4⟩], by simp only [cut_some, List.map_cons, List.map_nil, get_cons, Nk.get_nil, Nat.reduceEqDiff, ↓reduceIte, Nat.succ_ne_self, DV.cut, DV.inB, DObj.cut, List.take_zero, reduceCtorEq, decide_true, Nat.reduceLT, List.take_succ_cons, Int.natCast_add, Int.natCast_one, List.length_append, List.length_cons, List.length_nil, Nat.zero_add, List.map_append] <;> rfl, by simpa using g1, by simp; omega⟩
    · rw [goneF_no q] at g1
      have q' := decide_eq_false q
      (have hcondQ := Bool.and_self; refine Todo.of ?_); (repeat' (first | ((with_reducible refine Todo.to ?_); (repeat (first | (simp only [↓rP, rT, rU, dvalX, dval, dBin, dInt, dLoad, cellsAt, DV.immB, dCallP, viewVs, viewV, view1, noMemV, noMem, dStore, DV.one, alive, cellsOf, setFrom, Nat.reduceEqDiff, Nat.reduceAdd, ↓reduceIte, reduceCtorEq, Nat.reduceLeDiff, Nat.reduceLT, forall_const, d, map_getD cSlt hx, e1, q' ]) | ((simp (disch := omega) only [i64_id]))))) | ((with_reducible refine And.intro ?_ ?_); · omega) | fail))
      exact ⟨o, by simp only [cut_some, List.map_cons, List.map_nil, get_cons, Nk.get_nil, Nat.reduceEqDiff, ↓reduceIte, Nat.succ_ne_self, DV.cut, DV.inB, DObj.cut, List.take_zero, reduceCtorEq, decide_true, Nat.reduceLT, List.take_succ_cons, Int.natCast_add, Int.natCast_one] <;> rfl, g1, by omega⟩
  obtain ⟨g1, g2⟩ := hr
  rw [show goneF b [] = [] from rfl, List.append_nil] at g1
  subst g1
  (have hcondQ := Bool.and_self; refine Todo.of ?_); (repeat' (first | ((with_reducible refine Todo.to ?_); (repeat (simp only [↓rP, rT, rU, dvalX, dval, dBin, dInt, retV, DR.val, fzT, fzV, fz1, elemsOf, freezeAt, Nat.reduceEqDiff, ↓reduceIte, reduceCtorEq, e ]))) | ((with_reducible refine And.intro ?_ ?_); · omega) | fail))
  all_goals exact congrArg DV.sl (List.take_of_length_le (by simp))
end Go.Proofs.YtjgefhgkinocmaaGreat

/- The texts are the document's; what is told of all paths is what it tells. -/
set_option linter.all false
set_option maxRecDepth 20000
namespace Go.Proofs.YtjgefhgkinocmaaGreat
open Go.Nk

theorem few_dfImg {x : Img} (h : fewF x = true) : dfImg x ∧ x.slots.length ≤ 150 ∧ ∀ s ∈ x.slots, s.path.length ≤ 300 := by
  simp only [fewF, smallF, Bool.and_eq_true, decide_eq_true_eq, List.all_eq_true] at h
  obtain ⟨⟨⟨⟨⟨⟨⟨h1, h2⟩, h3⟩, h4⟩, h5⟩, h6⟩, h7⟩, h8⟩ := h
  refine ⟨⟨fun e he => ?_, by omega, by omega⟩, h4, fun s hs => ?_⟩
  · have := h2 e he
    simp only [smallE, Bool.and_eq_true, decide_eq_true_eq] at this
    omega
  · have := h8 s hs
    simp only [fewS, Bool.and_eq_true, decide_eq_true_eq] at this
    omega
end Go.Proofs.YtjgefhgkinocmaaGreat

/- Which images may be, by the document. -/
set_option linter.all false
set_option maxRecDepth 20000
namespace Go.Proofs.YtjgefhgkinocmaaGreat
open Go.Nk
theorem cShp_inj : ∀ x y, cShp x = cShp y → x = y := fun x y h => by
  cases x; cases y
  simp only [cShp, List.cons.injEq, DV.int.injEq, DV.sl.injEq, true_and, and_true] at h
  obtain ⟨h1, h2, h3, h4⟩ := h
  rw [ils_inj h1, ils_inj h2, h3, h4]
abbrev eShpF : ShpF → DV := eA cShp
theorem inj_ShpF : Inj eShpF := inj_A cShp_inj

/-! A text, cut at a byte. -/
def splitG (c : UInt8) : List UInt8 → List UInt8 → List (List UInt8)
  | cur, [] => [cur]
  | cur, x :: r => if x = c then cur :: splitG c [] r else splitG c (cur ++ [x]) r
def splitF (c : UInt8) (s : List UInt8) : List (List UInt8) := splitG c [] s
theorem splitG_len (c : UInt8) : ∀ (l cur : List UInt8), 1 ≤ (splitG c cur l).length ∧ (splitG c cur l).length ≤ l.length + 1
  | [], cur => by simp [splitG]
  | x :: r, cur => by
    unfold splitG
    split
    · have := splitG_len c r []
      simp only [List.length_cons]; omega
    · have := splitG_len c r (cur ++ [x])
      simp only [List.length_cons]; omega
theorem splitG_mem (c : UInt8) : ∀ (l cur : List UInt8) (p : List UInt8), p ∈ splitG c cur l → p.length ≤ cur.length + l.length
  | [], cur, p, h => by
    simp only [splitG, List.mem_singleton] at h
    subst h; simp
  | x :: r, cur, p, h => by
    unfold splitG at h
    split at h
    · rcases List.mem_cons.1 h with h | h
      · subst h; omega
      · have := splitG_mem c r [] p h
        simp only [List.length_nil, List.length_cons] at *; omega
    · have := splitG_mem c r (cur ++ [x]) p h
      simp only [List.length_append, List.length_cons, List.length_nil] at *; omega
def tailF (c : UInt8) (s : List UInt8) (k f : Nat) : List (List UInt8) := if k ≤ s.length then splitG c ((s.take k).drop f) (s.drop k) else []
theorem tail_end {c : UInt8} {s : List UInt8} {f : Nat} : tailF c s s.length f = [(s.take s.length).drop f] := by
  simp [tailF, splitG]
theorem tail_out {c : UInt8} {s : List UInt8} {k f : Nat} (h : s.length < k) : tailF c s k f = [] := by
  unfold tailF; rw [if_neg (by omega)]
theorem tail_sep {c : UInt8} {s : List UInt8} {k f : Nat} (h : s[k]? = some c) : tailF c s k f = (s.take k).drop f :: tailF c s (k + 1) (k + 1) := by
  obtain ⟨hk, hc⟩ := List.getElem?_eq_some_iff.1 h
  have hd : s.drop k = c :: s.drop (k + 1) := by rw [List.drop_eq_getElem_cons hk, hc]
  have ht : (s.take (k + 1)).drop (k + 1) = [] := List.drop_eq_nil_of_le (by simp; omega)
  unfold tailF
  rw [if_pos (by omega), if_pos (by omega), hd, ht]
  simp [splitG]
theorem tail_no {c x : UInt8} {s : List UInt8} {k f : Nat} (h : s[k]? = some x) (hx : x ≠ c) (hf : f ≤ k) : tailF c s k f = tailF c s (k + 1) f := by
  obtain ⟨hk, hc⟩ := List.getElem?_eq_some_iff.1 h
  have hd : s.drop k = x :: s.drop (k + 1) := by rw [List.drop_eq_getElem_cons hk, hc]
  have ht : (s.take (k + 1)).drop f = (s.take k).drop f ++ [x] := by
    rw [List.take_add_one, h]
    simp only [Option.toList_some]
    rw [List.drop_append_of_le_length (by simp; omega)]
  unfold tailF
  rw [if_pos (by omega), if_pos (by omega), hd, ht]
  simp [splitG, hx]
noncomputable def s_cut : List DV → Prop × DV := spec2 eS eY fun s c => (s.length ≤ 1000000, .sl (sls (splitF c s)))
theorem s_cut_at (s : List UInt8) (c : UInt8) : s_cut [.str s, .int .u8 c.toNat] = (s.length ≤ 1000000, .sl (sls (splitF c s))) := spec2_at inj_S inj_Y _ s c
theorem ok_noriaref04_cut : OkP Tryz.prog 88 s_cut := by
  refine OkP.mk2 (ps := []) (hs := []) trivial trivial m_noriaref04_cut fun s c h => ?_
  try dsimp only at h
  have h : s.length ≤ 1000000 := h
  (have hcondQ := Bool.and_self; refine Todo.of ?_); (repeat' (first | ((with_reducible refine Todo.to ?_); (repeat (simp only [↓rP, rT, rU, eS, dvalX, dval, fzLL, ↓reduceIte, reduceCtorEq, forall_const, d_noriaref04_cut, eY ])))))
  refine dwp_loop (fun a : Nat × Nat × List (List UInt8) => ⟨[(0, .str s), (1, .int .u8 c.toNat), (5, .own 0 a.2.2.length 0 a.2.2.length), (6, .int .i64 a.2.1), (7, .int .i64 a.1)], [⟨.imm, 1, sls a.2.2⟩]⟩)
    (fun a => a.1 ≤ s.length + 1 ∧ a.2.1 ≤ a.1 ∧ a.2.2.length ≤ a.1 ∧ a.2.2 ++ tailF c s a.1 a.2.1 = splitF c s) (fun a => s.length + 1 - a.1) (0, 0, []) (by exact Nat.zero_le _) (by simp only [cut_some, List.map_cons, List.map_nil, get_cons, Nk.get_nil, Nat.reduceEqDiff, ↓reduceIte, Nat.succ_ne_self, DV.cut, DV.inB, DObj.cut, List.take_nil, reduceCtorEq, Nat.zero_lt_one, decide_true, List.take_succ_cons, List.length_nil] <;> rfl) ⟨by simp, Nat.le_refl _, Nat.le_refl _, by simp [tailF, splitF]⟩ (fun a ha => ?_)
  obtain ⟨k, f, o⟩ := a
  obtain ⟨g1, g2, g3, g4⟩ := ha
  simp only at g1 g2 g3 g4
  by_cases d : k ≤ s.length
  · by_cases dk : k = s.length
    · subst dk
      rw [tail_end, List.take_length] at g4
      (have hcondQ := Bool.and_self; refine Todo.of ?_); (repeat' (first | ((with_reducible refine Todo.to ?_); (repeat (first | (simp only [↓rP, rT, rU, dvalX, dval, dBin, dInt, fz1, DV.immB, elemsOf, dAppend, fzLL, fzL, bRow, bU, cellsOf, DV.isU, lenMax, Nat.reduceEqDiff, ↓reduceIte, reduceCtorEq, Nat.reduceLeDiff, forall_const, sls_len, dSliceS, dBound, sls_snoc , hcondQ]) | ((simp (disch := omega) only [i64_id]))))) | ((with_reducible refine And.intro ?_ ?_); · omega) | (((((with_reducible refine dwp_condI (t := ?_) ?_ (fun hcQ => ?_) (fun hcQ => ?_)); rotate_left; · (rfl))) <;> (have hn := hcQ; have hcondQ := hcQ) <;> (try simp only [decide_eq_true_eq, decide_eq_false_iff_not, Int.ofNat_le] at hn) <;> (try (exfalso; omega)) <;> (refine Todo.of ?_))) | fail))
      exact ⟨(s.length + 1, s.length + 1, o ++ [s.drop f]), by simp only [cut_some, List.map_cons, List.map_nil, get_cons, Nk.get_nil, Nat.reduceEqDiff, ↓reduceIte, Nat.succ_ne_self, DV.cut, DV.inB, DObj.cut, List.take_nil, reduceCtorEq, Nat.zero_lt_one, decide_true, List.take_succ_cons, Int.natCast_add, Int.natCast_one, List.length_append, List.length_cons, List.length_nil, Nat.zero_add] <;> rfl, ⟨by simp, by simp, by simp; omega, by simp only; rw [tail_out (by omega), List.append_nil]; exact g4⟩, by simp only; omega⟩
    · have hx : s[k]? = some s[k] := List.getElem?_eq_getElem (by omega)
      have hg := getD_some (d := 0) hx
      generalize s[k] = x at *
      by_cases hc : x = c
      · subst hc
        rw [tail_sep hx] at g4
        (have hcondQ := Bool.and_self; refine Todo.of ?_); (repeat' (first | ((with_reducible refine Todo.to ?_); (repeat (first | (simp only [↓rP, rT, rU, dvalX, dval, dBin, dInt, fz1, DV.immB, elemsOf, dAppend, fzLL, fzL, bRow, bU, cellsOf, DV.isU, lenMax, Nat.reduceEqDiff, ↓reduceIte, reduceCtorEq, Nat.reduceLeDiff, forall_const, sls_len, dSliceS, dBound, sls_snoc, hg , hcondQ]) | ((simp (disch := omega) only [i64_id]))))) | ((with_reducible refine And.intro ?_ ?_); · omega) | (((first | ((with_reducible refine dwp_condI (t := ?_) ?_ (fun hcQ => ?_) (fun hcQ => ?_)); rotate_left; · (rfl)) | ((with_reducible refine dops_guardI (t := ?_) ?_ (fun hcQ => ?_) (fun hcQ => ?_)); rotate_left; · (rfl))) <;> (have hn := hcQ; have hcondQ := hcQ) <;> (try simp only [decide_eq_true_eq, decide_eq_false_iff_not, beq_iff_eq, ne_eq, beq_eq_false_iff_ne, Int.ofNat_le] at hn) <;> (try (exfalso; omega)) <;> (refine Todo.of ?_))) | fail))
        exact ⟨(k + 1, k + 1, o ++ [(s.take k).drop f]), by simp only [cut_some, List.map_cons, List.map_nil, get_cons, Nk.get_nil, Nat.reduceEqDiff, ↓reduceIte, Nat.succ_ne_self, DV.cut, DV.inB, DObj.cut, List.take_nil, reduceCtorEq, Nat.zero_lt_one, decide_true, List.take_succ_cons, Int.natCast_add, Int.natCast_one, List.length_append, List.length_cons, List.length_nil, Nat.zero_add] <;> rfl, ⟨by simp only; omega, by simp, by simp; omega, by simpa using g4⟩, by simp only; omega⟩
      · rw [tail_no hx hc (by omega)] at g4
        have hb : ((x.toNat : Int) == (c.toNat : Int)) = false := by rw [beq_byte]; simpa using hc
        (have hcondQ := Bool.and_self; refine Todo.of ?_); (repeat' (first | ((with_reducible refine Todo.to ?_); (repeat (first | (simp only [↓rP, rT, dvalX, dval, dBin, dInt, Nat.reduceEqDiff, ↓reduceIte, reduceCtorEq, hg, hb , hcondQ]) | ((simp (disch := omega) only [i64_id]))))) | ((with_reducible refine And.intro ?_ ?_); · omega) | (((first | ((with_reducible refine dwp_condI (t := ?_) ?_ (fun hcQ => ?_) (fun hcQ => ?_)); rotate_left; · (rfl)) | ((with_reducible refine dops_guardI (t := ?_) ?_ (fun hcQ => ?_) (fun hcQ => ?_)); rotate_left; · (rfl))) <;> (have hn := hcQ; have hcondQ := hcQ) <;> (try simp only [decide_eq_true_eq, decide_eq_false_iff_not, beq_iff_eq, ne_eq, beq_eq_false_iff_ne, Int.ofNat_le] at hn) <;> (try (exfalso; omega)) <;> (refine Todo.of ?_))) | fail))
        exact ⟨(k + 1, f, o), by simp only [cut_some, List.map_cons, List.map_nil, get_cons, Nk.get_nil, Nat.reduceEqDiff, ↓reduceIte, Nat.succ_ne_self, DV.cut, DV.inB, DObj.cut, List.take_nil, reduceCtorEq, Nat.zero_lt_one, decide_true, List.take_succ_cons, Int.natCast_add, Int.natCast_one] <;> rfl, ⟨by simp only; omega, by simp only; omega, by simp only; omega, g4⟩, by simp only; omega⟩
  · rw [tail_out (by omega), List.append_nil] at g4
    subst g4
    (have hcondQ := Bool.and_self; refine Todo.of ?_); (repeat' (first | ((with_reducible refine Todo.to ?_); (repeat (simp only [↓rP, rT, rU, dvalX, dval, dBin, dInt, retV, DR.val, fzT, fzV, fz1, elemsOf, freezeAt, Nat.reduceEqDiff, ↓reduceIte, reduceCtorEq, sls_len, sls_tk0, sls_tk0 , hcondQ]))) | (((((with_reducible refine dwp_condI (t := ?_) ?_ (fun hcQ => ?_) (fun hcQ => ?_)); rotate_left; · (rfl))) <;> (have hn := hcQ; have hcondQ := hcQ) <;> (try simp only [decide_eq_true_eq, decide_eq_false_iff_not, Int.ofNat_le] at hn) <;> (try (exfalso; omega)) <;> (refine Todo.of ?_))) | fail)) <;> (try (exact Nat.le_refl _))

/-! Paths. -/
def numSh (b : List UInt8) : Bool := decide (1 ≤ b.length) && decide (b.length ≤ 3) && (b.getD 0 0 != 48) && b.all (fun x => inY x 48 57)
def segP : List (List UInt8) → Bool
  | [a] => lowF a
  | [a, b] => lowF a && numSh b
  | _ => false
def segF (x : List UInt8) : Bool := segP (splitF 46 x)
theorem segF_eq (x : List UInt8) : segF x = segP (splitF 46 x) := rfl
def pathF (s : List UInt8) : Bool := (splitF 47 s).all segF
theorem beq48 (x : UInt8) : ((x.toNat : Int) == 48) = (x == 48) := by
  have := beq_byte x 48
  simpa using this
noncomputable def s_Path : List DV → Prop × DV := spec1 eS fun s => (s.length ≤ 1000000, .bool (pathF s))
theorem s_Path_at (s : List UInt8) : s_Path [.str s] = (s.length ≤ 1000000, .bool (pathF s)) := spec1_at inj_S _ s
theorem ok_noriaref04_Path : OkP Tryz.prog 61 s_Path := by
  refine OkP.mk1 (ps := [(88, s_cut), (35, s_Low), (89, s_in)]) (hs := []) ⟨ok_noriaref04_cut, ok_noriaref04_Low, ok_noriaref04_in, trivial⟩ trivial m_noriaref04_Path fun s h => ?_
  try dsimp only at h
  have h : s.length ≤ 1000000 := h
  have e0 := s_cut_at s 47
  rw [eq_true h] at e0
  have y0 : (47 : UInt8).toNat = 47 := rfl
  simp only [y0, Int.cast_ofNat_Int] at e0
  have hm := splitG_mem 47 s []
  have hl := (splitG_len 47 s []).2
  rw [show splitG 47 [] s = splitF 47 s from rfl] at hm hl
  rw [show pathF s = (splitF 47 s).all segF from rfl]
  generalize splitF 47 s = l at *
  (have hcondQ := Bool.and_self; refine Todo.of ?_); (repeat' (first | ((with_reducible refine Todo.to ?_); (repeat (simp only [↓rP, rT, rU, eS, dvalX, dval, fzVs, fzV, fz1, DV.immB, dCallP, viewVs, viewV, view1, noMemV, noMem, ↓reduceIte, reduceCtorEq, d_noriaref04_Path, e0 ])))))
  refine dwp_each l (fun k (_ : Unit) => ⟨[(3, .sl (sls l)), (4, .int .i64 k)], []⟩) (fun k r _ => r.all segF = l.all segF) () (Nat.zero_le _) (by simp only [cut_some, List.map_cons, List.map_nil, get_cons, Nk.get_nil, Nat.reduceEqDiff, ↓reduceIte, DV.cut, DV.inB, List.take_nil] <;> rfl) rfl (fun k x r _ d hx hd hr => ?_) (fun k _ e hr => ?_)
  · simp only [List.all_cons] at hr
    have e1 := s_cut_at x 46
    have y1 : (46 : UInt8).toNat = 46 := rfl
    have hxm : x.length ≤ 1000000 := by
      have := hm x (mem_drop_of hd)
      simp only [List.length_nil] at this
      omega
    rw [eq_true hxm] at e1
    simp only [y1, Int.cast_ofNat_Int] at e1
    have hp := (splitG_len 46 x []).1
    rw [show splitG 46 [] x = splitF 46 x from rfl] at hp
    rw [segF_eq] at hr
    generalize splitF 46 x = p at *
    rcases p with _ | ⟨a, _ | ⟨b, _ | ⟨c, p⟩⟩⟩
    · simp at hp
    · simp only [segP] at hr
      simp only [sls, List.map_cons, List.map_nil] at e1
      (have hcondQ := Bool.and_self; refine Todo.of ?_); (repeat' (first | ((with_reducible refine Todo.to ?_); (repeat (first | (simp only [↓rP, rT, rU, dvalX, dval, dBin, dInt, dUn, dLoad, cellsAt, retV, DR.val, fzT, fzVs, fzV, fz1, DV.immB, dCallP, viewVs, viewV, view1, noMemV, noMem, Nat.reduceEqDiff, ↓reduceIte, reduceCtorEq, Int.reduceToNat, Int.reduceLE, Int.reduceLT, s_Low_at, sls_len, d, slsAt hx, e1 , hcondQ]) | ((simp (disch := omega) only [i64_id]))))) | ((with_reducible refine And.intro ?_ ?_); · omega) | (((((with_reducible refine dwp_condI (t := ?_) ?_ (fun hcQ => ?_) (fun hcQ => ?_)); rotate_left; · (rfl))) <;> (have hn := hcQ; have hcondQ := hcQ) <;> (try simp only [Bool.not_eq_true', Bool.not_eq_false'] at hn) <;> (refine Todo.of ?_))) | fail))
      all_goals first
        | exact ⟨(), by simp only [cut_some, List.map_cons, List.map_nil, get_cons, Nk.get_nil, Nat.reduceEqDiff, ↓reduceIte, DV.cut, DV.inB, List.take_nil, Int.natCast_add, Int.natCast_one] <;> rfl, by grind⟩
        | grind
    · simp only [segP] at hr
      simp only [sls, List.map_cons, List.map_nil] at e1
      by_cases q : lowF a = true ∧ 1 ≤ b.length ∧ b.length ≤ 3 ∧ (b.getD 0 0 == 48) = false
      rotate_left
      · have hf : l.all segF = false := by
          rw [← hr]
          simp only [numSh]
          grind
        rw [hf]
        (have hcondQ := Bool.and_self; refine Todo.of ?_); (repeat' (first | ((with_reducible refine Todo.to ?_); (repeat (simp only [↓rP, rT, rU, dvalX, dval, dBin, dInt, dUn, dLoad, cellsAt, retV, DR.val, fzT, fzVs, fzV, fz1, DV.immB, dCallP, viewVs, viewV, view1, noMemV, noMem, Nat.reduceEqDiff, Nat.reduceAdd, ↓reduceIte, reduceCtorEq, Int.reduceToNat, Int.reduceLE, Int.reduceLT, s_Low_at, sls_len, d, slsAt hx, e1, beq48 , hcondQ]))) | ((with_reducible refine And.intro ?_ ?_); · omega) | (((first | ((with_reducible refine dwp_condI (t := ?_) ?_ (fun hcQ => ?_) (fun hcQ => ?_)); rotate_left; · (rfl)) | ((with_reducible refine dops_guardI (t := ?_) ?_ (fun hcQ => ?_) (fun hcQ => ?_)); rotate_left; · (rfl))) <;> (have hn := hcQ; have hcondQ := hcQ) <;> (try simp only [decide_eq_true_eq, decide_eq_false_iff_not, beq_iff_eq, ne_eq, beq_eq_false_iff_ne, Bool.not_eq_true', Bool.not_eq_false'] at hn) <;> (refine Todo.of ?_))) | fail))
        all_goals grind
      obtain ⟨q1, q2, q3, q4⟩ := q
      (have hcondQ := Bool.and_self; refine Todo.of ?_); (repeat' (first | ((with_reducible refine Todo.to ?_); (repeat (simp only [↓rP, rT, rU, dvalX, dval, dBin, dInt, dUn, dLoad, cellsAt, fzVs, fzV, fz1, DV.immB, dCallP, viewVs, viewV, view1, noMemV, noMem, Nat.reduceEqDiff, Nat.reduceAdd, ↓reduceIte, reduceCtorEq, Int.reduceToNat, Int.reduceLE, Int.reduceLT, s_Low_at, sls_len, d, slsAt hx, e1, beq48, q1, q4 , hcondQ]))) | ((with_reducible refine And.intro ?_ ?_); · omega) | (((((with_reducible refine dops_guardI (t := ?_) ?_ (fun hcQ => ?_) (fun hcQ => ?_)); rotate_left; · (rfl))) <;> (have hn := hcQ; have hcondQ := hcQ) <;> (try simp only [decide_eq_true_eq, decide_eq_false_iff_not] at hn) <;> (try (exfalso; omega)) <;> (refine Todo.of ?_))) | fail))
      have hnum : numSh b = b.all (fun x => inY x 48 57) := by
        simp only [numSh, q2, q3, decide_true, Bool.true_and, bne, q4, Bool.not_false]
      rw [q1, hnum, Bool.true_and] at hr
      refine dwp_each b (fun j (_ : Unit) => ⟨[(3, .sl (sls l)), (4, .int .i64 k), (6, .str b), (7, .int .i64 j)], []⟩) (fun j r' _ => (r'.all fun x => inY x 48 57) = b.all fun x => inY x 48 57) () (Nat.zero_le _) (by simp only [cut_some, List.map_cons, List.map_nil, get_cons, Nk.get_nil, Nat.reduceEqDiff, ↓reduceIte, Nat.succ_ne_self, DV.cut, DV.inB, List.take_nil] <;> rfl) rfl (fun j y r' _ d' hy hd' hr' => ?_) (fun j _ e' hr' => ?_)
      · simp only [List.all_cons] at hr'
        have e4 := s_in_at y 48 57
        have y5 : (48 : UInt8).toNat = 48 := rfl
        have y6 : (57 : UInt8).toNat = 57 := rfl
        simp only [y5, y6, Int.cast_ofNat_Int] at e4
        (have hcondQ := Bool.and_self; refine Todo.of ?_); (repeat' (first | ((with_reducible refine Todo.to ?_); (repeat (first | (simp only [↓rP, rT, rU, dvalX, dval, dBin, dInt, dUn, retV, DR.val, fzT, fzV, fz1, DV.immB, dCallP, viewVs, viewV, view1, noMemV, noMem, Nat.reduceEqDiff, ↓reduceIte, d', getD_some hy, e4 , hcondQ]) | ((simp (disch := omega) only [i64_id]))))) | ((with_reducible refine And.intro ?_ ?_); · omega) | (((((with_reducible refine dwp_condI (t := ?_) ?_ (fun hcQ => ?_) (fun hcQ => ?_)); rotate_left; · (rfl))) <;> (have hn := hcQ; have hcondQ := hcQ) <;> (try simp only [Bool.not_eq_true', Bool.not_eq_false'] at hn) <;> (refine Todo.of ?_))) | fail))
        all_goals first
          | exact ⟨(), by simp only [cut_some, List.map_cons, List.map_nil, get_cons, Nk.get_nil, Nat.reduceEqDiff, ↓reduceIte, Nat.succ_ne_self, DV.cut, DV.inB, List.take_nil, Int.natCast_add, Int.natCast_one] <;> rfl, by grind⟩
          | grind
          | trace_state
      · simp only [List.all_nil] at hr'
        rw [← hr', Bool.true_and] at hr
        (have hcondQ := Bool.and_self; refine Todo.of ?_); (repeat' (first | ((with_reducible refine Todo.to ?_); (repeat (first | (simp only [↓rP, rT, rU, dvalX, dval, dBin, dInt, Nat.reduceEqDiff, ↓reduceIte, e' ]) | ((simp (disch := omega) only [i64_id])))))))
        exact ⟨(), by simp only [cut_some, List.map_cons, List.map_nil, get_cons, Nk.get_nil, Nat.reduceEqDiff, ↓reduceIte, DV.cut, DV.inB, List.take_nil, Int.natCast_add, Int.natCast_one] <;> rfl, hr⟩
    · simp only [segP] at hr
      simp only [sls, List.map_cons] at e1
      (have hcondQ := Bool.and_self; refine Todo.of ?_); (repeat' (first | ((with_reducible refine Todo.to ?_); (repeat (simp only [↓rP, rT, rU, dvalX, dval, dBin, dInt, dLoad, cellsAt, retV, DR.val, fzT, fzVs, fzV, fz1, DV.immB, dCallP, viewVs, viewV, view1, noMemV, noMem, Nat.reduceEqDiff, ↓reduceIte, reduceCtorEq, sls_len, d, slsAt hx, e1 , hcondQ]))) | ((with_reducible refine And.intro ?_ ?_); · omega) | (((((with_reducible refine dops_guardI (t := ?_) ?_ (fun hcQ => ?_) (fun hcQ => ?_)); rotate_left; · (rfl))) <;> (have hn := hcQ; have hcondQ := hcQ) <;> (try simp only [decide_eq_true_eq, decide_eq_false_iff_not] at hn) <;> (try (exfalso; omega)) <;> (refine Todo.of ?_))) | fail)) <;> (try (assumption))
      all_goals grind
  · simp only [List.all_nil] at hr
    (have hcondQ := Bool.and_self; refine Todo.of ?_); (repeat' (first | ((with_reducible refine Todo.to ?_); (repeat (simp only [↓rP, rT, rU, dvalX, dval, dBin, dInt, retV, DR.val, fzT, fzV, fz1, DV.immB, Nat.reduceEqDiff, ↓reduceIte, sls_len, e, ← hr ])))))
end Go.Proofs.YtjgefhgkinocmaaGreat

