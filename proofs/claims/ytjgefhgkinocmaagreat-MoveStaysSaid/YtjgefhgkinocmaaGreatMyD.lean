/- A plan that keeps each slot: what it makes of a state is the state. -/
import Derived.Test.YtjgefhgkinocmaaGreatMvE
import Derived.Test.YtjgefhgkinocmaaGreatDfI
import Derived.Test.YtjgefhgkinocmaaGreatDfG
import Derived.Test.YtjgefhgkinocmaaGreatTyM
import Derived.Test.YtjgefhgkinocmaaGreatMvF
set_option linter.all false
set_option maxRecDepth 20000
namespace Go.Proofs.YtjgefhgkinocmaaGreat
open Go.Nk

def keepP (s : Slt) : Pln := ⟨1, s.at_, cellsTy s.ty, s.at_, [], []⟩
def sumR (l : List Slt) : Int := (l.map fun s => cellsTy s.ty).sum
theorem sumR_b : ∀ l : List Slt, 0 ≤ sumR l
  | [] => by simp [sumR]
  | x :: l => by
    have h := cellsTy_b x.ty
    have ih := sumR_b l
    unfold sumR at ih ⊢
    simp only [List.map_cons, List.sum_cons]
    omega
theorem sumR_cons (x : Slt) (l : List Slt) : sumR (x :: l) = cellsTy x.ty + sumR l := by simp [sumR]
/-- Slots one behind the other, from a place on. -/
def chain : Int → List Slt → Prop
  | _, [] => True
  | a, s :: r => s.at_ = a ∧ chain (a + cellsTy s.ty) r
theorem keep_right {c : Int} : ∀ (r : List Slt) (a : Int), chain a r → 0 ≤ a → a + sumR r ≤ 1000 → a + sumR r ≤ c → rightL (r.map keepP) a c = true
  | [], _, _, _, _, _ => rfl
  | s :: r, a, h, h0, h1, h2 => by
    obtain ⟨e, h⟩ := h
    have hb := cellsTy_b s.ty
    have hr := sumR_b r
    rw [sumR_cons] at h1 h2
    have ih := keep_right (c := c) r (a + cellsTy s.ty) h (by omega) (by omega) (by omega)
    simp only [List.map_cons, rightL, Bool.and_eq_true]
    refine ⟨?_, ih⟩
    simp only [rightQ, keepP, ↓reduceIte, Bool.and_eq_true, beq_iff_eq]
    refine ⟨⟨⟨⟨e, decide_eq_true ?_⟩, decide_eq_true ?_⟩, decide_eq_true ?_⟩, ⟨decide_eq_true ?_, decide_eq_true ?_⟩, decide_eq_true ?_⟩ <;> omega
theorem keep_told {old : List Int} : ∀ r : List Slt, toldL (r.map keepP) old 0 = r.map fun s => ⟨(old.take (s.at_ + cellsTy s.ty).toNat).drop s.at_.toNat, 0, 0⟩
  | [] => rfl
  | s :: r => by
    have e : oneM (keepP s) old 0 = ⟨(old.take (s.at_ + cellsTy s.ty).toNat).drop s.at_.toNat, 0, 0⟩ := by simp [oneM, keepP]
    simp only [List.map_cons, toldL, e, ↓reduceIte, Int.sub_zero, keep_told r]
theorem keep_fold {old : List Int} : ∀ (r : List Slt) (a : Int), chain a r → 0 ≤ a → a + sumR r = old.length →
    foldT (r.map fun s => ⟨(old.take (s.at_ + cellsTy s.ty).toNat).drop s.at_.toNat, 0, 0⟩) (old.take a.toNat) 0 = (old, 0, 0)
  | [], a, _, h0, h => by
    have hs : sumR [] = 0 := rfl
    have e : a.toNat = old.length := by omega
    simp only [List.map_nil, foldT, e, List.take_length]
  | s :: r, a, h, h0, h1 => by
    obtain ⟨e, h⟩ := h
    have hb := cellsTy_b s.ty
    rw [sumR_cons] at h1
    have ih := keep_fold (old := old) r (a + cellsTy s.ty) h (by omega) (by omega)
    simp only [List.map_cons, foldT, ↓reduceIte, Int.zero_add]
    rw [e]
    have e2 : old.take a.toNat ++ (old.take (a + cellsTy s.ty).toNat).drop a.toNat = old.take (a + cellsTy s.ty).toNat := by
      have := List.take_append_drop a.toNat (old.take (a + cellsTy s.ty).toNat)
      rw [List.take_take, Nat.min_eq_left (show a.toNat ≤ (a + cellsTy s.ty).toNat by omega)] at this
      exact this
    rw [e2]
    exact ih
theorem sumR_eq (l : List Slt) : sumC l = sumR l := by
  have key : ∀ (l : List Slt) (n : Int), l.foldl (fun n s => n + cellsTy s.ty) n = n + sumR l := by
    intro l
    induction l with
    | nil => intro n; simp [sumR]
    | cons x l ih => intro n; rw [List.foldl_cons, ih, sumR_cons]; omega
  have := key l 0
  rw [Int.zero_add] at this
  exact this
theorem chain_drop {l : List Slt} (h : ∀ (k : Nat) x, l[k]? = some x → x.at_ = sumC (l.take k)) : ∀ m k, m + k = l.length → chain (sumC (l.take k)) (l.drop k)
  | 0, k, e => by rw [List.drop_of_length_le (by omega)]; trivial
  | m + 1, k, e => by
    have hk : k < l.length := by omega
    have hx : l[k]? = some l[k] := List.getElem?_eq_getElem hk
    rw [List.drop_eq_getElem_cons hk]
    have e1 : l.getD k default = l[k] := by simp [hk]
    have ih := chain_drop h m (k + 1) (by omega)
    rw [sumC_take hk, e1] at ih
    exact ⟨h k _ hx, ih⟩
theorem chain_of {l : List Slt} (h : ∀ (k : Nat) x, l[k]? = some x → x.at_ = sumC (l.take k)) : chain 0 l := by
  have := chain_drop h l.length 0 (by omega)
  rwa [List.take_zero, List.drop_zero] at this
theorem keep_all {l : List Slt} {old : List Int} (h : chain 0 l) (h1 : sumR l ≤ 1000) (h2 : sumR l = old.length) : allF (l.map keepP) old 0 = (old, 0, 0) := by
  unfold allF
  rw [if_pos (keep_right l 0 h (Int.le_refl 0) (by omega) (by omega)), keep_told]
  exact keep_fold l 0 h (Int.le_refl 0) (by omega)
end Go.Proofs.YtjgefhgkinocmaaGreat

/- What the program and the document do of no Moves; the plan of a migration without Moves. -/
set_option linter.all false
set_option maxRecDepth 20000
namespace Go.Proofs.YtjgefhgkinocmaaGreat
open Go.Nk
/-- No Moves. -/
@[reducible] def eNil (_ : Unit) : DV := .sl []
theorem inj_Nil : Inj eNil := fun _ _ _ => rfl
noncomputable def s_MFew0 : List DV → Prop × DV := spec1 eNil fun u => (True, .bool true)
theorem s_MFew0_at (u : Unit) : s_MFew0 [.sl []] = (True, .bool true) := spec1_at inj_Nil _ u
theorem ok_noriaref37_Few : OkP Tryz.prog 14 s_MFew0 := by
  refine OkP.mk1 (ps := []) (hs := []) trivial trivial m_noriaref37_Few fun u h => ?_
  try dsimp only at h
  (have hcondQ := Bool.and_self; refine Todo.of ?_); (repeat' (first | ((with_reducible refine Todo.to ?_); (repeat (simp only [↓rP, rT, dvalX, dval, d_noriaref37_Few, eNil ])))))
  refine dwp_each ([] : List Unit) (fun k (_ : Unit) => ⟨[(0, .sl []), (3, .int .i64 k)], []⟩) (fun k _ _ => k = 0) () (Nat.zero_le _) (by simp only [cut_some, List.map_cons, List.map_nil, get_cons, Nk.get_nil, ↓reduceIte, DV.cut, DV.inB, List.take_nil, reduceCtorEq] <;> rfl) rfl (fun k x r _ d _ _ _ => absurd d (Nat.not_lt_zero _)) (fun k _ e hk => ?_)
  subst hk
  (have hcondQ := Bool.and_self; refine Todo.of ?_); (repeat' (first | ((with_reducible refine Todo.to ?_); (repeat (simp only [↓rP, rT, rU, dvalX, dval, dBin, dInt, retV, DR.val, fzT, fzV, fz1, DV.immB, Nat.reduceEqDiff, ↓reduceIte, reduceCtorEq, Int.reduceLE ])))))
noncomputable def s_Check0 : List DV → Prop × DV := spec3 eImg eImg eNil fun a b u => (True, .tup [.int .i64 0, .int .i64 0])
theorem s_Check0_at (a : Img) (b : Img) (u : Unit) : s_Check0 [.agg (cImg a), .agg (cImg b), .sl []] = (True, .tup [.int .i64 0, .int .i64 0]) := spec3_at inj_Img inj_Img inj_Nil _ a b u
theorem ok_mtype_Check : OkP Tryz.prog 21 s_Check0 := by
  refine OkP.mk3 (ps := []) (hs := []) trivial trivial m_mtype_Check fun a b u h => ?_
  try dsimp only at h
  (have hcondQ := Bool.and_self; refine Todo.of ?_); (repeat' (first | ((with_reducible refine Todo.to ?_); (repeat (simp only [↓rP, rT, rU, eA, dvalX, dval, DV.immB, cellsOf, Nat.reduceEqDiff, ↓reduceIte, reduceCtorEq, d_mtype_Check, eImg, eNil, hcondQ])))))
  refine dwp_each ([] : List Unit) (fun k (_ : Unit) => ⟨[(2, .sl []), (3, .ref (cImg a)), (4, .ref (cImg b)), (11, .sl []), (12, .int .i64 0), (13, .int .i64 k)], []⟩) (fun k _ _ => k = 0) () (Nat.zero_le _) (by simp only [cut_some, List.map_cons, List.map_nil, get_cons, Nk.get_nil, Nat.reduceEqDiff, ↓reduceIte, Nat.succ_ne_self, DV.cut, DV.inB, List.take_nil, reduceCtorEq] <;> rfl) rfl (fun k x r _ d _ _ _ => absurd d (Nat.not_lt_zero _)) (fun k _ e hk => ?_)
  subst hk
  (have hcondQ := Bool.and_self; refine Todo.of ?_); (repeat' (first | ((with_reducible refine Todo.to ?_); (repeat (simp only [↓rP, rT, rU, dvalX, dval, dBin, dInt, retV, retL, DR.val, fzT, fzVs, fzV, fz1, DV.immB, Nat.reduceEqDiff, ↓reduceIte ])))))
@[reducible] def eCloMv (s : List UInt8) : DV := .clo 79 [.ref [.str s]]
theorem inj_CloMv : Inj eCloMv := fun _ _ h => by simpa [eCloMv] using h
noncomputable def s_IxM0 : List DV → Prop × DV := spec2 eNil eCloMv fun u p => (True, .int .i64 (-1))
theorem s_IxM0_at (u : Unit) (p : List UInt8) : s_IxM0 [.sl [], .clo 79 [.ref [.str p]]] = (True, .int .i64 (-1)) := spec2_at inj_Nil inj_CloMv _ u p
theorem ok_slices_IndexFunc_api_Move_api_Move : OkP Tryz.prog 78 s_IxM0 := by
  refine OkP.mk2 (ps := []) (hs := []) trivial trivial m_slices_IndexFunc_api_Move_api_Move fun u p h => ?_
  try dsimp only at h
  (have hcondQ := Bool.and_self; refine Todo.of ?_); (repeat' (first | ((with_reducible refine Todo.to ?_); (repeat (simp only [↓rP, rT, rU, dvalX, dval, ↓reduceIte, reduceCtorEq, Int.reduceNeg, d_slices_IndexFunc_api_Move_api_Move, eCloMv, eNil ])))))
  refine dwp_each ([] : List Unit) (fun k (_ : Unit) => ⟨[(0, .sl []), (1, .clo 79 [.ref [.str p]]), (7, .int .i64 0), (8, .int .i64 k)], []⟩) (fun k _ _ => k = 0) () (Nat.zero_le _) (by simp only [cut_some, List.map_cons, List.map_nil, get_cons, Nk.get_nil, Nat.reduceEqDiff, ↓reduceIte, Nat.succ_ne_self, DV.cut, DV.inB, List.take_nil, DV.inBL, Bool.and_true, reduceCtorEq] <;> rfl) rfl (fun k x r _ d _ _ _ => absurd d (Nat.not_lt_zero _)) (fun k _ e hk => ?_)
  subst hk
  (have hcondQ := Bool.and_self; refine Todo.of ?_); (repeat' (first | ((with_reducible refine Todo.to ?_); (repeat (simp only [↓rP, rT, rU, dvalX, dval, dBin, dInt, retV, DR.val, fzT, fzV, fz1, DV.immB, Nat.reduceEqDiff, ↓reduceIte, reduceCtorEq, Int.reduceNeg ])))))
def mov0 : DV := .agg [.str [], .int .i64 0, .int .i64 0, .str [], .int .i64 0, .sl [], .sl []]
noncomputable def s_moved0 : List DV → Prop × DV := spec2 eNil eS fun u p => (True, .tup [mov0, .bool false])
theorem s_moved0_at (u : Unit) (p : List UInt8) : s_moved0 [.sl [], .str p] = (True, .tup [mov0, .bool false]) := spec2_at inj_Nil inj_S _ u p
theorem ok_plan_moved : OkP Tryz.prog 50 s_moved0 := by
  refine OkP.mk2 (ps := [(78, s_IxM0)]) (hs := []) ⟨ok_slices_IndexFunc_api_Move_api_Move, trivial⟩ trivial m_plan_moved fun u p h => ?_
  try dsimp only at h
  (have hcondQ := Bool.and_self; refine Todo.of ?_); (repeat' (first | ((with_reducible refine Todo.to ?_); (repeat (simp only [↓rP, rT, rU, eS, buildCells, dvalX, dval, dBin, dInt, dLoad, cellsAt, retV, retL, DR.val, fzT, fzVs, fzV, fz1, DV.immB, dCallP, viewVs, viewV, view1, capVL, capV, noMemV, noMem, dStore, DV.one, fzL, cellsOf, setFrom, Nat.reduceEqDiff, Nat.reduceAdd, ↓reduceIte, reduceCtorEq, Int.reduceLT, Nat.reduceLeDiff, Int.reduceNeg, forall_const, d_plan_moved, eNil, s_IxM0_at () , hcondQ])))))
  all_goals rfl

/-- What a slot of the new image gets. -/
def stepF (a : Img) (s : Slt) (w : Int) : Pln :=
  if w = 1 then ⟨1, s.at_, cellsTy s.ty, (a.slots.getD (fndI a.slots s.path).toNat default).at_, [], []⟩ else ⟨2, s.at_, cellsTy s.ty, 0, s.ini, []⟩
theorem ils_il (l : List Int) : ils l = il l := rfl
def a_step0 (x : Img × Img × Unit × Slt × Int) : List DV := [.agg (cImg (x.1)), .agg (cImg (x.2.1)), .sl [], .agg (cSlt (x.2.2.2.1)), .int .i64 (x.2.2.2.2)]
theorem inj_s_step0 : InjL a_step0 := fun x y h => by obtain ⟨x0, x1, x2, x3, x4⟩ := x; obtain ⟨y0, y1, y2, y3, y4⟩ := y; injection h with h0 h; have q0 : x0 = y0 := inj_Img _ _ h0; injection h with h1 h;  have q1 : x1 = y1 := inj_Img _ _ h1; injection h with h2 h;  have q2 : x2 = y2 := inj_Nil _ _ h2; injection h with h3 h;  have q3 : x3 = y3 := inj_Slt _ _ h3; injection h with h4 h;  have q4 : x4 = y4 := inj_I _ _ h4; subst q0 q1 q2 q3 q4; rfl
noncomputable def s_step0 : List DV → Prop × DV := specA a_step0 fun x => let a := x.1; let b := x.2.1; let u := x.2.2.1; let s := x.2.2.2.1; let w := x.2.2.2.2; (a.slots.length ≤ 1000000 ∧ s.ini.length ≤ 1000000 ∧ (w = 1 → 0 ≤ fndI a.slots s.path), .agg (cPln (stepF a s w)))
theorem s_step0_at (a : Img) (b : Img) (u : Unit) (s : Slt) (w : Int) : s_step0 [.agg (cImg a), .agg (cImg b), .sl [], .agg (cSlt s), .int .i64 w] = (a.slots.length ≤ 1000000 ∧ s.ini.length ≤ 1000000 ∧ (w = 1 → 0 ≤ fndI a.slots s.path), .agg (cPln (stepF a s w))) := specA_at inj_s_step0 _ (a, b, u, s, w)
theorem ok_plan_step : OkP Tryz.prog 23 s_step0 := by
  refine OkP.mkA (ps := [(49, s_CellsTy), (50, s_moved0), (48, s_Find), (52, s_CloneP)]) (hs := []) ⟨ok_CellsTy, ok_plan_moved, ok_tree_Find, ok_CloneP, trivial⟩ trivial m_plan_step (fun _ => rfl) fun x h => ?_
  try dsimp only at h
  obtain ⟨a, b, u, s, w⟩ := x
  obtain ⟨h1, h2, h3⟩ := h
  dsimp only [a_step0] at h1 h2 h3 ⊢
  have e1 := s_moved0_at () s.path
  have e2 := s_Find_at a.slots s.path
  rw [eq_true h1] at e2
  have e3 := s_CellsTy_at s.ty
  simp only [cTy] at e3
  have e4 := s_CloneP_at s.ini
  rw [eq_true (show s.ini.length ≤ 4294967296 by omega), ← ils_il] at e4
  by_cases q : w = 1
  · obtain ⟨k, hk⟩ : ∃ k : Nat, fndI a.slots s.path = k := ⟨(fndI a.slots s.path).toNat, by have := h3 q; omega⟩
    have hk2 : k < a.slots.length := by
      obtain ⟨k', e, h⟩ := fnd_range (m := a.slots) (p := s.path) (by omega)
      omega
    have gx : (a.slots.map cSlt).getD k [] = cSlt (a.slots.getD k default) := map_getD cSlt (by simp [hk2])
    have hr : stepF a s w = ⟨1, s.at_, cellsTy s.ty, (a.slots.getD k default).at_, [], []⟩ := by simp [stepF, q, hk]
    rw [hr]
    rw [hk] at e2
    subst q
    (have hcondQ := Bool.and_self; refine Todo.of ?_); (repeat' (first | ((with_reducible refine Todo.to ?_); (repeat (simp only [↓rP, rT, rU, buildCells, dvalX, dval, frameFrom, dBin, dInt, dLoad, cellsAt, retV, DR.val, fzT, fzVs, fzV, fz1, DV.immB, dCallP, viewVs, viewV, view1, viewL, noMemV, noMem, dStore, DV.one, alive, fzL, cellsOf, setFrom, DV.isU, Nat.reduceEqDiff, Nat.reduceAdd, ↓reduceIte, reduceCtorEq, Nat.reduceLeDiff, Nat.reduceLT, forall_const, d_plan_step, e1, e2, e3, gx, mov0 , hcondQ]))) | ((with_reducible refine And.intro ?_ ?_); · omega) | fail))
    all_goals rfl
  · have hr : stepF a s w = ⟨2, s.at_, cellsTy s.ty, 0, s.ini, []⟩ := by simp [stepF, q]
    rw [hr]
    (have hcondQ := Bool.and_self; refine Todo.of ?_); (repeat' (first | ((with_reducible refine Todo.to ?_); (repeat (simp only [↓rP, rT, rU, buildCells, dvalX, dval, frameFrom, dBin, dInt, dLoad, cellsAt, retV, DR.val, fzT, fzVs, fzV, fz1, DV.immB, dCallP, viewVs, viewV, view1, viewL, noMemV, noMem, dStore, DV.one, alive, fzL, cellsOf, setFrom, DV.isU, Nat.reduceEqDiff, Nat.reduceAdd, ↓reduceIte, reduceCtorEq, Nat.reduceLeDiff, Nat.reduceLT, forall_const, d_plan_step, e1, e3, e4, mov0 , hcondQ]))) | (((((with_reducible refine dwp_condI (t := ?_) ?_ (fun hcQ => ?_) (fun hcQ => ?_)); rotate_left; · (rfl))) <;> (have hn := hcQ; have hcondQ := hcQ) <;> (try simp only [beq_iff_eq, ne_eq, beq_eq_false_iff_ne] at hn) <;> (try (exfalso; omega)) <;> (refine Todo.of ?_))) | fail))
    all_goals rfl
theorem what_one {a b : Img} {s : Slt} (h : whatF a b s = 1) : 0 ≤ fndI a.slots s.path := by
  unfold whatF at h
  split at h
  · cases h
  · omega
def makeF (a b : Img) : List Pln := b.slots.map fun s => stepF a s (whatF a b s)
noncomputable def s_Make0 : List DV → Prop × DV := spec3 eImg eImg eNil fun a b u => (dfImg a ∧ dfImg b ∧ ∀ s ∈ b.slots, s.ini.length ≤ 1000000, .tup [.sl ((makeF a b).map cPln), .int .i64 0, .int .i64 0])
theorem s_Make0_at (a : Img) (b : Img) (u : Unit) : s_Make0 [.agg (cImg a), .agg (cImg b), .sl []] = (dfImg a ∧ dfImg b ∧ ∀ s ∈ b.slots, s.ini.length ≤ 1000000, .tup [.sl ((makeF a b).map cPln), .int .i64 0, .int .i64 0]) := spec3_at inj_Img inj_Img inj_Nil _ a b u
theorem ok_plan_Make : OkP Tryz.prog 8 s_Make0 := by
  refine OkP.mk3 (ps := [(21, s_Check0), (22, s_Diff), (23, s_step0)]) (hs := []) ⟨ok_mtype_Check, ok_differ_Diff, ok_plan_step, trivial⟩ trivial m_plan_Make fun a b u h => ?_
  try dsimp only at h
  obtain ⟨ha, hb, hi⟩ := h
  have e1 := s_Check0_at a b ()
  have e2 := s_Diff_at a b
  rw [eq_true (show dfImg a ∧ dfImg b from ⟨ha, hb⟩)] at e2
  have hn := hb.2.2
  simp only [cImg] at e1 e2
  (have hcondQ := Bool.and_self; refine Todo.of ?_); (repeat' (first | ((with_reducible refine Todo.to ?_); (repeat (simp only [↓rP, rT, rU, eA, dvalX, dval, dBin, dInt, dLoad, cellsAt, fzVs, fzV, fz1, DV.immB, dCallP, viewVs, viewV, view1, viewL, noMemV, noMem, fzL, cellsOf, Nat.reduceEqDiff, Nat.reduceAdd, ↓reduceIte, reduceCtorEq, Nat.reduceLeDiff, Nat.reduceLT, d_plan_Make, eImg, eNil, e1, e2 , hcondQ])))))
  have hl : b.slots.length ≤ (diffF a b).length := by simp [diffF, newF]
  refine dwp_each b.slots (fun k (o : List Pln) => ⟨[(2, .sl []), (3, .ref (cImg a)), (4, .ref (cImg b)), (9, .int .i64 0), (11, .own 0 o.length 0 o.length), (12, .sl ((diffF a b).map cChg)), (30, .sl (b.slots.map cSlt)), (31, .int .i64 b.slots.length), (32, .int .i64 k)], [⟨.imm, 6, o.map cPln⟩]⟩)
    (fun k r o => o ++ (r.map fun s => stepF a s (whatF a b s)) = makeF a b ∧ o.length = k) [] (Nat.zero_le _) (by simp only [cut_some, List.map_cons, List.map_nil, get_cons, Nk.get_nil, Nat.reduceEqDiff, ↓reduceIte, Nat.succ_ne_self, DV.cut, DV.inB, DObj.cut, List.take_nil, reduceCtorEq, Nat.zero_lt_one, decide_true, List.take_succ_cons, List.length_nil] <;> rfl) ⟨rfl, rfl⟩ (fun k x r o d hx hd hr => ?_) (fun k o e hr => ?_)
  · obtain ⟨g1, g2⟩ := hr
    have hc : (diffF a b)[k]? = some ⟨x.path, whatF a b x⟩ := by
      rw [diffF, List.getElem?_append_left (by simpa [newF] using d)]
      simp [newF, hx]
    have gc : ((diffF a b).map cChg).getD k [] = cChg ⟨x.path, whatF a b x⟩ := map_getD cChg hc
    have e3 := s_step0_at a b () x (whatF a b x)
    rw [eq_true (show a.slots.length ≤ 1000000 ∧ x.ini.length ≤ 1000000 ∧ (whatF a b x = 1 → 0 ≤ fndI a.slots x.path) from ⟨ha.2.2, hi x (List.mem_of_getElem? hx), what_one⟩)] at e3
    simp only [cSlt, cImg, cPln] at e3
    (have hcondQ := Bool.and_self; refine Todo.of ?_); (repeat' (first | ((with_reducible refine Todo.to ?_); (repeat (first | (simp only [↓rP, rT, rU, dvalX, dval, dBin, dInt, dLoad, cellsAt, fzVs, fzV, fz1, DV.immB, dCallP, viewVs, viewV, view1, viewL, noMemV, noMem, elemsOf, dAppend, dStore, DV.one, fzLL, fzL, bRow, bU, cellsOf, setFrom, DV.isU, lenMax, Nat.reduceEqDiff, Nat.reduceAdd, ↓reduceIte, reduceCtorEq, Nat.reduceLeDiff, forall_const, d, map_getD cSlt hx, gc, e3 , hcondQ]) | ((simp (disch := omega) only [i64_id]))))) | ((with_reducible refine And.intro ?_ ?_); · omega) | fail))
    all_goals first
      | exact ⟨o ++ [stepF a x (whatF a b x)], by simp only [cut_some, List.map_cons, List.map_nil, get_cons, Nk.get_nil, Nat.reduceEqDiff, ↓reduceIte, Nat.succ_ne_self, DV.cut, DV.inB, DObj.cut, List.take_zero, reduceCtorEq, Nat.zero_lt_one, decide_true, List.take_succ_cons, Int.natCast_add, Int.natCast_one, List.length_append, List.length_cons, List.length_nil, Nat.zero_add, List.map_append] <;> rfl, by simpa using g1, by simp; omega⟩
      | trace_state
  · obtain ⟨g1, g2⟩ := hr
    simp only [List.map_nil, List.append_nil] at g1
    subst g1
    (have hcondQ := Bool.and_self; refine Todo.of ?_); (repeat' (first | ((with_reducible refine Todo.to ?_); (repeat (simp only [↓rP, rT, rU, dvalX, dval, dBin, dInt, retV, retL, DR.val, fzT, fzVs, fzV, fz1, DV.immB, elemsOf, freezeAt, Nat.reduceEqDiff, ↓reduceIte, reduceCtorEq, e ]))) | ((with_reducible refine And.intro ?_ ?_); · omega) | fail))
    all_goals first
      | exact congrArg DV.sl (List.take_of_length_le (by simp))
      | trace_state
end Go.Proofs.YtjgefhgkinocmaaGreat

/- MoveStays. -/
set_option linter.all false
set_option maxRecDepth 20000
namespace Go.Proofs.YtjgefhgkinocmaaGreat
open Go.Nk
structure Cll where
  path : List UInt8
  vals : List Int
@[reducible] def cCll (c : Cll) : List DV := [.str c.path, .sl (ils c.vals)]
theorem cll_snoc (o : List Cll) (p : List UInt8) (v : List Int) : o.map cCll ++ [[.str p, .sl (ils v)]] = (o ++ [(⟨p, v⟩ : Cll)]).map cCll := by simp

def readOk (m : List Int) (x : Slt) : Bool := decide (0 ≤ x.at_) && decide (x.at_ ≤ m.length - cellsTy x.ty)
def readC (m : List Int) (x : Slt) : Cll := ⟨x.path, (m.take (x.at_ + cellsTy x.ty).toNat).drop x.at_.toNat⟩
def readF (s : List Slt) (m : List Int) : List Cll := if s.all (readOk m) = true then s.map (readC m) else []
noncomputable def s_Read : List DV → Prop × DV := spec2 eSlts eIls fun s m => (s.length ≤ 1000000 ∧ m.length ≤ 1000000000000000, .sl ((readF s m).map cCll))
theorem s_Read_at (s : List Slt) (m : List Int) : s_Read [.sl (s.map cSlt), .sl (ils m)] = (s.length ≤ 1000000 ∧ m.length ≤ 1000000000000000, .sl ((readF s m).map cCll)) := spec2_at inj_Slts inj_Ils _ s m
theorem ok_noriaref27_Read : OkP Tryz.prog 17 s_Read := by
  refine OkP.mk2 (ps := [(30, s_CellsTy)]) (hs := []) ⟨ok_refCellsTy, trivial⟩ trivial m_noriaref27_Read fun s m h => ?_
  try dsimp only at h
  obtain ⟨h1, h2⟩ := h
  (have hcondQ := Bool.and_self; refine Todo.of ?_); (repeat' (first | ((with_reducible refine Todo.to ?_); (repeat (simp only [↓rP, rT, rU, eL, dvalX, dval, fzLL, Nat.reduceAdd, ↓reduceIte, reduceCtorEq, forall_const, d_noriaref27_Read, eIls, eSlts ])))))
  refine dwp_each s (fun k (o : List Cll) => ⟨[(0, .sl (s.map cSlt)), (1, .sl (ils m)), (5, .own 0 o.length 0 o.length), (6, .int .i64 k)], [⟨.imm, 2, o.map cCll⟩]⟩)
    (fun k r o => o.length = k ∧ readF s m = if r.all (readOk m) = true then o ++ r.map (readC m) else []) [] (Nat.zero_le _) (by simp only [cut_some, List.map_cons, List.map_nil, get_cons, Nk.get_nil, Nat.reduceEqDiff, ↓reduceIte, Nat.succ_ne_self, DV.cut, DV.inB, DObj.cut, List.take_nil, reduceCtorEq, Nat.zero_lt_one, decide_true, List.take_succ_cons, List.length_nil] <;> rfl) ⟨rfl, rfl⟩ (fun k x r o d hx hd hr => ?_) (fun k o e hr => ?_)
  · obtain ⟨g1, g2⟩ := hr
    have e1 := s_CellsTy_at x.ty
    have hb := cellsTy_b x.ty
    simp only [cTy] at e1
    have w1 : IntKind.i64.wrap ((m.length : Int) - cellsTy x.ty) = m.length - cellsTy x.ty := wrap_i64_id (by omega)
    cases hq : readOk m x
    · have hr : readF s m = [] := by rw [g2, List.all_cons, hq, Bool.false_and]; rfl
      rw [hr]
      simp only [readOk, Bool.and_eq_false_iff, decide_eq_false_iff_not] at hq
      (have hcondQ := Bool.and_self; refine Todo.of ?_); (repeat' (first | ((with_reducible refine Todo.to ?_); (repeat (simp only [↓rP, rT, rU, dvalX, dval, dBin, dInt, dLoad, cellsAt, retV, DR.val, fzT, fzV, fz1, DV.immB, dCallP, viewVs, viewV, view1, viewL, noMemV, noMem, Nat.reduceEqDiff, Nat.reduceAdd, ↓reduceIte, reduceCtorEq, Nat.reduceLeDiff, Nat.reduceLT, ils_len, d, map_getD cSlt hx, e1, w1 , hcondQ]))) | ((with_reducible refine And.intro ?_ ?_); · omega) | (((first | ((with_reducible refine dwp_condI (t := ?_) ?_ (fun hcQ => ?_) (fun hcQ => ?_)); rotate_left; · (rfl)) | ((with_reducible refine dops_guardI (t := ?_) ?_ (fun hcQ => ?_) (fun hcQ => ?_)); rotate_left; · (rfl))) <;> (have hn := hcQ; have hcondQ := hcQ) <;> (try simp only [decide_eq_true_eq, decide_eq_false_iff_not] at hn) <;> (try (exfalso; omega)) <;> (refine Todo.of ?_))) | fail))
      all_goals first | rfl | omega
    · simp only [List.all_cons, hq, Bool.true_and] at g2
      simp only [readOk, Bool.and_eq_true, decide_eq_true_eq] at hq
      obtain ⟨q1, q2⟩ := hq
      have w2 : IntKind.i64.wrap (x.at_ + cellsTy x.ty) = x.at_ + cellsTy x.ty := wrap_i64_id (by omega)
      have c1 : decide (x.at_ < 0) = false := decide_eq_false (by omega)
      have c2 : decide (x.at_ > (m.length : Int) - cellsTy x.ty) = false := decide_eq_false (by omega)
      have c3 : decide ((m.length : Int) - cellsTy x.ty < x.at_) = false := decide_eq_false (by omega)
      have e2 := fun hp => slice_ils (hp := hp) (l := m) (a := x.at_) (b := x.at_ + cellsTy x.ty) q1 (by omega) (by omega)
      (have hcondQ := Bool.and_self; refine Todo.of ?_); (repeat' (first | ((with_reducible refine Todo.to ?_); (repeat (first | (simp only [↓rP, rT, rU, buildCells, dvalX, DOp.kind, dval, dBin, dInt, dLoad, cellsAt, fz1, DV.immB, dCallP, viewVs, viewV, view1, viewL, noMemV, noMem, elemsOf, dAppend, fzLL, fzL, bRow, bU, cellsOf, setFrom, DV.isU, lenMax, Nat.reduceEqDiff, Nat.reduceAdd, ↓reduceIte, reduceCtorEq, Nat.reduceLeDiff, Nat.reduceLT, forall_const, ils_len, d, map_getD cSlt hx, e1, e2, w1, w2, c1, c2, cll_snoc , hcondQ]) | ((simp (disch := omega) only [i64_id]))))) | ((with_reducible refine And.intro ?_ ?_); · omega) | fail))
      all_goals first
        | exact ⟨o ++ [readC m x], by simp only [cut_some, List.map_cons, List.map_nil, get_cons, Nk.get_nil, Nat.reduceEqDiff, ↓reduceIte, Nat.succ_ne_self, DV.cut, DV.inB, DObj.cut, List.take_nil, reduceCtorEq, Nat.zero_lt_one, decide_true, List.take_succ_cons, Int.natCast_add, Int.natCast_one, List.length_append, List.length_cons, List.length_nil, Nat.zero_add, List.map_append] <;> rfl, by simp; omega, by rw [g2]; simp [readC]⟩
        | trace_state
  · obtain ⟨g1, g2⟩ := hr
    simp only [List.all_nil, if_true, List.map_nil, List.append_nil] at g2
    rw [g2]
    (have hcondQ := Bool.and_self; refine Todo.of ?_); (repeat' (first | ((with_reducible refine Todo.to ?_); (repeat (simp only [↓rP, rT, rU, dvalX, dval, dBin, dInt, retV, DR.val, fzT, fzV, fz1, elemsOf, freezeAt, Nat.reduceEqDiff, ↓reduceIte, reduceCtorEq, e ]))) | ((with_reducible refine And.intro ?_ ?_); · omega) | fail))
    all_goals first
      | exact congrArg DV.sl (List.take_of_length_le (by simp))
      | trace_state
/-- Is a state of an image right? -/
def rightC (l : List En) : List Slt → List Cll → Bool
  | s :: r, c :: q => rightV l s.ty c.vals && rightC l r q
  | _, _ => true
def rightSt (x : Img) (st : List Int) : Bool := (st.length : Int) == sumC x.slots && (readF x.slots st).length == x.slots.length && rightC x.en x.slots (readF x.slots st)
noncomputable def s_rightSt : List DV → Prop × DV := spec2 eImg eIls fun x st => (x.slots.length ≤ 1000000 ∧ st.length ≤ 1000000000000000, .bool (rightSt x st))
theorem s_rightSt_at (x : Img) (st : List Int) : s_rightSt [.agg (cImg x), .sl (ils st)] = (x.slots.length ≤ 1000000 ∧ st.length ≤ 1000000000000000, .bool (rightSt x st)) := spec2_at inj_Img inj_Ils _ x st
theorem ok_norialaw41_right : OkP Tryz.prog 6 s_rightSt := by
  refine OkP.mk2 (ps := [(17, s_Read), (18, s_SumC), (19, s_RightV)]) (hs := []) ⟨ok_noriaref27_Read, ok_refSumC, ok_refRightV, trivial⟩ trivial m_norialaw41_right fun x st h => ?_
  try dsimp only at h
  obtain ⟨h1, h2⟩ := h
  have e1 := s_Read_at x.slots st
  rw [eq_true (show x.slots.length ≤ 1000000 ∧ st.length ≤ 1000000000000000 from ⟨h1, h2⟩)] at e1
  have e2 := s_SumC_at x.slots
  rw [eq_true (show x.slots.length ≤ 1000000000 by omega)] at e2
  have rl : (readF x.slots st).length ≤ x.slots.length := by unfold readF; split <;> simp
  by_cases q : (st.length : Int) = sumC x.slots ∧ (readF x.slots st).length = x.slots.length
  rotate_left
  · have hr : rightSt x st = false := by
      unfold rightSt
      by_cases q1 : (st.length : Int) = sumC x.slots
      · have q2 : ¬ (readF x.slots st).length = x.slots.length := fun h => q ⟨q1, h⟩
        simp [q2]
      · simp [q1]
    rw [hr]
    (have hcondQ := Bool.and_self; refine Todo.of ?_); (repeat' (first | ((with_reducible refine Todo.to ?_); (repeat (simp only [↓rP, rT, rU, eA, dvalX, dval, dBin, dInt, dLoad, cellsAt, retV, DR.val, fzT, fzVs, fzV, fz1, DV.immB, dCallP, viewVs, viewV, view1, noMemV, noMem, cellsOf, Nat.reduceEqDiff, Nat.reduceAdd, ↓reduceIte, reduceCtorEq, Nat.reduceLT, d_norialaw41_right, eIls, eImg, ils_len, e1, e2 , hcondQ]))) | (((first | ((with_reducible refine dwp_condI (t := ?_) ?_ (fun hcQ => ?_) (fun hcQ => ?_)); rotate_left; · (rfl)) | ((with_reducible refine dops_guardI (t := ?_) ?_ (fun hcQ => ?_) (fun hcQ => ?_)); rotate_left; · (rfl))) <;> (have hn := hcQ; have hcondQ := hcQ) <;> (try simp only [bne_iff_ne, ne_eq, bne_eq_false_iff_eq] at hn) <;> (try (exfalso; omega)) <;> (refine Todo.of ?_))) | fail))
    all_goals (exfalso; apply q; refine ⟨?_, ?_⟩ <;> grind)
  obtain ⟨q1, q2⟩ := q
  have c1 : ((st.length : Int) != sumC x.slots) = false := by simp [q1]
  have c2 : (((readF x.slots st).length : Int) != (x.slots.length : Int)) = false := by simp [q2]
  have hr : rightSt x st = rightC x.en x.slots (readF x.slots st) := by simp [rightSt, q1, q2]
  have hv : ∀ c ∈ readF x.slots st, c.vals.length ≤ 1000000000 := by
    intro c hc
    unfold readF at hc
    split at hc
    · rename_i ha
      obtain ⟨s, hs, rfl⟩ := List.mem_map.1 hc
      have := List.all_eq_true.1 ha s hs
      simp only [readOk, Bool.and_eq_true, decide_eq_true_eq] at this
      have hb := cellsTy_b s.ty
      simp only [readC, List.length_drop, List.length_take]
      omega
    · simp at hc
  rw [hr]
  generalize readF x.slots st = cs at *
  (have hcondQ := Bool.and_self; refine Todo.of ?_); (repeat' (first | ((with_reducible refine Todo.to ?_); (repeat (simp only [↓rP, rT, rU, eA, dvalX, dval, dBin, dInt, dLoad, cellsAt, fzVs, fzV, fz1, DV.immB, dCallP, viewVs, viewV, view1, noMemV, noMem, cellsOf, Nat.reduceEqDiff, Nat.reduceAdd, ↓reduceIte, reduceCtorEq, Nat.reduceLT, d_norialaw41_right, eIls, eImg, ils_len, e1, e2, c1, c2 , hcondQ])))))
  refine dwp_each cs (fun k (_ : Unit) => ⟨[(2, .ref (cImg x)), (5, .sl (cs.map cCll)), (6, .int .i64 k)], []⟩)
    (fun k r _ => rightC x.en x.slots cs = rightC x.en (x.slots.drop k) r) () (Nat.zero_le _) (by simp only [cut_some, List.map_cons, List.map_nil, get_cons, Nk.get_nil, Nat.reduceEqDiff, ↓reduceIte, DV.cut, DV.inB, List.take_nil] <;> rfl) rfl (fun k c r _ d hc hd hr => ?_) (fun k _ e hr => ?_)
  · have d2 : k < x.slots.length := by omega
    have hs : x.slots[k]? = some x.slots[k] := List.getElem?_eq_getElem d2
    rw [List.drop_eq_getElem_cons d2] at hr
    generalize x.slots[k] = s at hs hr
    have e3 := s_RightV_at x.en s.ty c.vals
    rw [eq_true (hv c (List.mem_of_getElem? hc))] at e3
    simp only [cTy] at e3
    cases q3 : rightV x.en s.ty c.vals
    · have hr : rightC x.en x.slots cs = false := by rw [hr]; simp [rightC, q3]
      rw [hr]
      (have hcondQ := Bool.and_self; refine Todo.of ?_); (repeat' (first | ((with_reducible refine Todo.to ?_); (repeat (simp only [↓rP, rT, rU, dvalX, dval, dBin, dInt, dUn, dLoad, cellsAt, retV, DR.val, fzT, fzV, fz1, DV.immB, dCallP, viewVs, viewV, view1, viewL, noMemV, noMem, Nat.reduceEqDiff, Nat.reduceAdd, ↓reduceIte, Nat.reduceLeDiff, Nat.reduceLT, d, map_getD cSlt hs, map_getD cCll hc, e3, q3 ]))) | ((with_reducible refine And.intro ?_ ?_); · omega) | fail)) <;> (try (omega))
    · have hr : rightC x.en x.slots cs = rightC x.en (x.slots.drop (k + 1)) r := by rw [hr]; simp [rightC, q3]
      (have hcondQ := Bool.and_self; refine Todo.of ?_); (repeat' (first | ((with_reducible refine Todo.to ?_); (repeat (first | (simp only [↓rP, rT, rU, dvalX, dval, dBin, dInt, dUn, dLoad, cellsAt, DV.immB, dCallP, viewVs, viewV, view1, viewL, noMemV, noMem, Nat.reduceEqDiff, Nat.reduceAdd, ↓reduceIte, Nat.reduceLeDiff, Nat.reduceLT, d, map_getD cSlt hs, map_getD cCll hc, e3, q3 ]) | ((simp (disch := omega) only [i64_id]))))) | ((with_reducible refine And.intro ?_ ?_); · omega) | fail))
      all_goals first
        | exact ⟨(), by simp only [cut_some, List.map_cons, List.map_nil, get_cons, Nk.get_nil, Nat.reduceEqDiff, ↓reduceIte, DV.cut, DV.inB, List.take_nil, Int.natCast_add, Int.natCast_one] <;> rfl, hr⟩
        | trace_state
  · have hr : rightC x.en x.slots cs = true := by rw [hr]; cases (x.slots.drop k) <;> rfl
    rw [hr]
    (have hcondQ := Bool.and_self; refine Todo.of ?_); (repeat' (first | ((with_reducible refine Todo.to ?_); (repeat (simp only [↓rP, rT, rU, dvalX, dval, dBin, dInt, retV, DR.val, fzT, fzV, fz1, DV.immB, Nat.reduceEqDiff, ↓reduceIte, e ])))))
def fit0 (a b : Img) : Bool := fewF a && fewF b && formF a && formF b
noncomputable def s_Fit0 : List DV → Prop × DV := spec3 eImg eImg eNil fun a b u => (okLen a ∧ okLen b, .bool (fit0 a b))
theorem s_Fit0_at (a : Img) (b : Img) (u : Unit) : s_Fit0 [.agg (cImg a), .agg (cImg b), .sl []] = (okLen a ∧ okLen b, .bool (fit0 a b)) := spec3_at inj_Img inj_Img inj_Nil _ a b u
theorem ok_norialaw38_Fit : OkP Tryz.prog 5 s_Fit0 := by
  refine OkP.mk3 (ps := [(13, s_Few), (14, s_MFew0), (15, s_Form)]) (hs := []) ⟨ok_noriaref33_Few, ok_noriaref37_Few, ok_noriaref34_Form, trivial⟩ trivial m_norialaw38_Fit fun a b u h => ?_
  try dsimp only at h
  obtain ⟨ha, hb⟩ := h
  have e0 := s_MFew0_at ()
  have e1 := s_Few_at a
  have e2 := s_Few_at b
  rw [eq_true ha] at e1
  rw [eq_true hb] at e2
  by_cases q1 : fewF a = true
  rotate_left
  · have hr : fit0 a b = false := by simp [fit0, q1]
    rw [hr]
    simp only [cImg] at e1 e2
    (have hcondQ := Bool.and_self; refine Todo.of ?_); (repeat' (first | ((with_reducible refine Todo.to ?_); (repeat (simp only [↓rP, rT, rU, eA, dvalX, dval, dUn, dLoad, cellsAt, retV, DR.val, fzT, fzV, fz1, DV.immB, dCallP, viewVs, viewV, view1, viewL, noMemV, noMem, cellsOf, Nat.reduceEqDiff, Nat.reduceAdd, ↓reduceIte, Nat.reduceLeDiff, d_norialaw38_Fit, eImg, eNil, e1, q1 , hcondQ])))))
  by_cases q2 : fewF b = true
  rotate_left
  · have hr : fit0 a b = false := by simp [fit0, q2]
    rw [hr]
    simp only [cImg] at e1 e2
    (have hcondQ := Bool.and_self; refine Todo.of ?_); (repeat' (first | ((with_reducible refine Todo.to ?_); (repeat (simp only [↓rP, rT, rU, eA, dvalX, dval, dUn, dLoad, cellsAt, retV, DR.val, fzT, fzV, fz1, DV.immB, dCallP, viewVs, viewV, view1, viewL, noMemV, noMem, cellsOf, Nat.reduceEqDiff, Nat.reduceAdd, ↓reduceIte, Nat.reduceLeDiff, d_norialaw38_Fit, eImg, eNil, e1, e2, q1, q2 , hcondQ])))))
  have e3 := s_Form_at a
  have e4 := s_Form_at b
  rw [eq_true (few_okForm q1)] at e3
  rw [eq_true (few_okForm q2)] at e4
  simp only [cImg] at e1 e2 e3 e4
  by_cases q3 : formF a = true
  rotate_left
  · have hr : fit0 a b = false := by simp [fit0, q3]
    rw [hr]
    (have hcondQ := Bool.and_self; refine Todo.of ?_); (repeat' (first | ((with_reducible refine Todo.to ?_); (repeat (simp only [↓rP, rT, rU, eA, dvalX, dval, dUn, dLoad, cellsAt, retV, DR.val, fzT, fzV, fz1, DV.immB, dCallP, viewVs, viewV, view1, viewL, noMemV, noMem, cellsOf, Nat.reduceEqDiff, Nat.reduceAdd, ↓reduceIte, reduceCtorEq, Nat.reduceLeDiff, d_norialaw38_Fit, eImg, eNil, e0, e1, e2, e3, q1, q2, q3 , hcondQ])))))
  by_cases q4 : formF b = true
  rotate_left
  · have hr : fit0 a b = false := by simp [fit0, q4]
    rw [hr]
    (have hcondQ := Bool.and_self; refine Todo.of ?_); (repeat' (first | ((with_reducible refine Todo.to ?_); (repeat (simp only [↓rP, rT, rU, eA, dvalX, dval, dUn, dLoad, cellsAt, retV, DR.val, fzT, fzV, fz1, DV.immB, dCallP, viewVs, viewV, view1, viewL, noMemV, noMem, cellsOf, Nat.reduceEqDiff, Nat.reduceAdd, ↓reduceIte, reduceCtorEq, Nat.reduceLeDiff, d_norialaw38_Fit, eImg, eNil, e0, e1, e2, e3, e4, q1, q2, q3, q4 , hcondQ])))))
  have hr : fit0 a b = true := by simp [fit0, q1, q2, q3, q4]
  rw [hr]
  (have hcondQ := Bool.and_self; refine Todo.of ?_); (repeat' (first | ((with_reducible refine Todo.to ?_); (repeat (simp only [↓rP, rT, rU, eA, dvalX, dval, dUn, dLoad, cellsAt, DV.immB, dCallP, viewVs, viewV, view1, viewL, noMemV, noMem, cellsOf, Nat.reduceEqDiff, Nat.reduceAdd, ↓reduceIte, reduceCtorEq, Nat.reduceLeDiff, d_norialaw38_Fit, eImg, eNil, e0, e1, e2, e3, e4, q1, q2, q3, q4 , hcondQ])))))
  refine dwp_each ([] : List Unit) (fun k (_ : Unit) => ⟨[(2, .sl []), (7, .int .i64 k)], []⟩) (fun k _ _ => k = 0) () (Nat.zero_le _) (by simp only [cut_some, List.map_cons, List.map_nil, get_cons, Nk.get_nil, Nat.reduceEqDiff, ↓reduceIte, Nat.succ_ne_self, DV.cut, DV.inB, List.take_nil, reduceCtorEq] <;> rfl) rfl (fun k x r _ d _ _ _ => absurd d (Nat.not_lt_zero _)) (fun k _ e hk => ?_)
  subst hk
  (have hcondQ := Bool.and_self; refine Todo.of ?_); (repeat' (first | ((with_reducible refine Todo.to ?_); (repeat (simp only [↓rP, rT, rU, dvalX, dval, dBin, dInt, retV, DR.val, fzT, fzV, fz1, DV.immB, Nat.reduceEqDiff, ↓reduceIte ])))))
end Go.Proofs.YtjgefhgkinocmaaGreat

/- MoveStays: the law. -/
set_option linter.all false
set_option maxRecDepth 20000
namespace Go.Proofs.YtjgefhgkinocmaaGreat
open Go.Nk

theorem make_self {x : Img} (h : formF x = true) : makeF x x = x.slots.map keepP := by
  have hd := diff_self h
  have h' := h
  simp only [formF, Bool.and_eq_true, beq_iff_eq] at h
  obtain ⟨⟨⟨⟨⟨⟨⟨_, _⟩, _⟩, _⟩, h2⟩, _⟩, _⟩, _⟩ := h
  simp only [rightS, Bool.and_eq_true] at h2
  have hs := slotsR_at x.slots 0 h2.2
  have hn : newF x x = keptF x := by
    have : (diffF x x).take x.slots.length = (keptF x).take x.slots.length := by rw [hd]
    rw [diffF, List.take_left' (by simp [newF]), List.take_of_length_le (by simp [keptF])] at this
    exact this
  unfold makeF
  refine List.map_congr_left fun s hsm => ?_
  obtain ⟨k, hk, rfl⟩ := List.mem_iff_getElem.1 hsm
  have hx : x.slots[k]? = some x.slots[k] := List.getElem?_eq_getElem hk
  have hw : whatF x x x.slots[k] = 1 := by
    have := congrArg (fun l : List Chg => (l[k]?).map (·.what)) hn
    simpa [newF, keptF, hx] using this
  have ho := hs k _ hx
  simp only [slotOk, Nat.zero_add, Bool.and_eq_true, beq_iff_eq] at ho
  have hf : fndI x.slots x.slots[k].path = k := by simpa using ho.2
  simp only [stepF, hw, if_true, hf, Int.toNat_natCast, getD_some hx, keepP]
theorem form_chain {x : Img} (h : formF x = true) : chain 0 x.slots ∧ sumR x.slots ≤ 1000 := by
  simp only [formF, Bool.and_eq_true, beq_iff_eq] at h
  obtain ⟨⟨⟨⟨⟨⟨⟨_, _⟩, _⟩, _⟩, h2⟩, _⟩, _⟩, _⟩ := h
  simp only [rightS, Bool.and_eq_true, decide_eq_true_eq] at h2
  have hs := slotsR_at x.slots 0 h2.2
  refine ⟨chain_of fun k s hx => ?_, by rw [← sumR_eq]; exact h2.1.2⟩
  have ho := hs k _ hx
  simp only [slotOk, Nat.zero_add, Bool.and_eq_true, beq_iff_eq] at ho
  exact ho.1.2
noncomputable def s_lawStays : List DV → Prop × DV := spec2 eImg eIls fun x st => (okLen x ∧ st.length ≤ 1000000000000000 ∧ ∀ n ∈ st, in64 n, .bool true)
theorem s_lawStays_at (x : Img) (st : List Int) : s_lawStays [.agg (cImg x), .sl (ils st)] = (okLen x ∧ st.length ≤ 1000000000000000 ∧ ∀ n ∈ st, in64 n, .bool true) := spec2_at inj_Img inj_Ils _ x st
theorem ok_norialaw41_MoveStays : OkP Tryz.prog 4 s_lawStays := by
  refine OkP.mk2 (ps := [(5, s_Fit0), (6, s_rightSt), (7, s_liveM), (8, s_Make0), (10, s_mAll), (9, s_numM), (12, s_Vals)]) (hs := []) ⟨ok_norialaw38_Fit, ok_norialaw41_right, ok_norialaw41_live, ok_plan_Make, ok_move_All, ok_norialaw41_num, ok_noriaref01_Vals, trivial⟩ trivial m_norialaw41_MoveStays fun x st h => ?_
  try dsimp only at h
  obtain ⟨h1, h2, h3⟩ := h
  have e1 := s_Fit0_at x x ()
  rw [eq_true (show okLen x ∧ okLen x from ⟨h1, h1⟩)] at e1
  by_cases q1 : fit0 x x = true
  rotate_left
  · simp only [cImg] at e1
    (have hcondQ := Bool.and_self; refine Todo.of ?_); (repeat' (first | ((with_reducible refine Todo.to ?_); (repeat (simp only [↓rP, rT, rU, eA, dvalX, dval, dUn, dLoad, cellsAt, retV, DR.val, fzT, fzV, fz1, DV.immB, dCallP, viewVs, viewV, view1, viewL, noMemV, noMem, cellsOf, Nat.reduceEqDiff, Nat.reduceAdd, ↓reduceIte, Nat.reduceLeDiff, d_norialaw41_MoveStays, s_liveM_at, eIls, eImg, e1, q1 , hcondQ])))))
  have q1' := q1
  simp only [fit0, Bool.and_eq_true] at q1'
  obtain ⟨⟨⟨f1, _⟩, f2⟩, _⟩ := q1'
  obtain ⟨d1, d2, d3⟩ := few_dfImg f1
  have e2 := s_rightSt_at x st
  rw [eq_true (show x.slots.length ≤ 1000000 ∧ st.length ≤ 1000000000000000 from ⟨by omega, h2⟩)] at e2
  by_cases q2 : rightSt x st = true
  rotate_left
  · simp only [cImg] at e1 e2
    (have hcondQ := Bool.and_self; refine Todo.of ?_); (repeat' (first | ((with_reducible refine Todo.to ?_); (repeat (simp only [↓rP, rT, rU, eA, dvalX, dval, dUn, dLoad, cellsAt, retV, DR.val, fzT, fzV, fz1, DV.immB, dCallP, viewVs, viewV, view1, viewL, noMemV, noMem, cellsOf, Nat.reduceEqDiff, Nat.reduceAdd, ↓reduceIte, Nat.reduceLeDiff, d_norialaw41_MoveStays, s_liveM_at, eIls, eImg, e1, e2, q1, q2 , hcondQ])))))
  have e3 := s_Make0_at x x ()
  rw [eq_true (show dfImg x ∧ dfImg x ∧ ∀ s ∈ x.slots, s.ini.length ≤ 1000000 from ⟨d1, d1, fun s hs => ((few_okForm f1).2 s hs).2⟩), make_self f2] at e3
  obtain ⟨hc, hs⟩ := form_chain f2
  have hl : sumR x.slots = st.length := by
    simp only [rightSt, Bool.and_eq_true, beq_iff_eq] at q2
    rw [q2.1.1, sumR_eq]
  have hk : okPs (x.slots.map keepP) st 0 := by
    refine ⟨by simpa using d2, by omega, fun p hp => ?_, ⟨⟨by omega, by omega⟩, by omega⟩, h3⟩
    obtain ⟨s, _, rfl⟩ := List.mem_map.1 hp
    exact ⟨by simp [keepP], by simp [keepP], fun i hi => by simp [keepP] at hi⟩
  have e4 := s_mAll_at (x.slots.map keepP) st 0
  rw [eq_true hk, keep_all hc hs hl] at e4
  simp only [resA, ← ils_il] at e4
  have e5 := s_Vals_same st (by omega)
  have e6 := s_ValsM_at st st
  rw [eq_true (show st.length ≤ 1000000000 by omega), ← ils_il, decide_eq_true (rfl : st = st)] at e6
  simp only [cImg] at e1 e2 e3
  (have hcondQ := Bool.and_self; refine Todo.of ?_); (repeat' (first | ((with_reducible refine Todo.to ?_); (repeat (simp only [↓rP, rT, rU, eA, dvalX, dval, dBin, dInt, dUn, dLoad, cellsAt, retV, DR.val, fzT, fzVs, fzV, fz1, DV.immB, dCallP, viewVs, viewV, view1, viewL, noMemV, noMem, fzL, cellsOf, Nat.reduceEqDiff, Nat.reduceAdd, ↓reduceIte, reduceCtorEq, Nat.reduceLeDiff, Nat.reduceLT, d_norialaw41_MoveStays, s_liveM_at, s_numM_at, eIls, eImg, e1, e2, e3, e4, e5, q1, q2 , hcondQ])))))

theorem reads_Is64 : Reads (.slice (.int .i64)) (fun l : List Int => [.sl (ils l)]) (fun l => l.length ≤ capLen ∧ ∀ x ∈ l, in64 x) :=
  Reads.as (Reads.slice Reads.int) (fun l => l) (fun _ => rfl) (fun _ h => h)
theorem moveStays_tells (dvs : List DV) (h : HasAll Tryz.prog [28, 30] dvs) : TellsP Tryz.prog 4 dvs (.bool true) := by
  obtain ⟨d1, r, rfl, h1, d2, r', rfl, h2, rfl⟩ := h
  obtain ⟨x, rfl, hx⟩ := HasV_agg (by kernel_rfl) reads_Img h1
  obtain ⟨st, hs, j1, j2⟩ := HasV_one (by kernel_rfl) rfl reads_Is64 h2
  injection hs with hs
  subst hs
  have e := s_lawStays_at x st
  have := (ok_norialaw41_MoveStays _ (by rw [e]; unfold capLen at j1; exact ⟨hx, by omega, j2⟩)).2
  rw [e] at this
  exact this
end Go.Proofs.YtjgefhgkinocmaaGreat

