/- A store: its object, and what is read of it. -/
import Derived.Test.YtfjddinibppmdaaSlA
set_option linter.all false
set_option maxRecDepth 20000
namespace Go.Proofs.Ytfjddinibppmdaa
open Go.Nk

def imgZ : Img := ⟨[], [], [], [], [], []⟩
/-- A version. -/
structure Vn where
  there : Bool
  x : Img
  st : List Int
def vnZ : Vn := ⟨false, imgZ, []⟩
/-- The two versions of a store, where their states lie, which holds, and how many were committed. -/
structure Qs where
  v0 : Vn
  v1 : Vn
  h0 : Nat
  h1 : Nat
  b : Bool
  c : Int
def hc (v : Vn) (h : Nat) : DV := if v.there then .own h v.st.length 0 v.st.length else .nil
@[reducible] def cQ (m : Bool) (q : Qs) (d0 d1 : DV) : List DV :=
  [.bool m, .bool q.v0.there, .sl (q.v0.x.en.map cEn), .sl (q.v0.x.ins.map cPrt), .sl (q.v0.x.outs.map cPrt), .sl (q.v0.x.slots.map cSlt), .sl (ils q.v0.x.loc), .sl (q.v0.x.code.map cIn4), d0,
    .bool q.v1.there, .sl (q.v1.x.en.map cEn), .sl (q.v1.x.ins.map cPrt), .sl (q.v1.x.outs.map cPrt), .sl (q.v1.x.slots.map cSlt), .sl (ils q.v1.x.loc), .sl (q.v1.x.code.map cIn4), d1, .int .i64 (if q.b then 1 else 0), .int .i64 q.c]
def oQ (m : Bool) (q : Qs) : DObj := ⟨.loc, 19, [cQ m q (hc q.v0 q.h0) (hc q.v1 q.h1)]⟩
def oSt (l : List Int) : DObj := ⟨.imm, 1, ils l⟩
/-- Of a version its state's place. -/
def Kept (hp : List DObj) (n : Nat) (v : Vn) (h : Nat) : Prop := (v.there = true → hp[h]? = some (oSt v.st) ∧ h ≠ n) ∧ (v.there = false → v = vnZ ∧ h = 0)
structure Rep (hp : List DObj) (n : Nat) (m : Bool) (q : Qs) : Prop where
  o : hp[n]? = some (oQ m q)
  k0 : Kept hp n q.v0 q.h0
  k1 : Kept hp n q.v1 q.h1
  ne : q.v0.there = true → q.v1.there = true → q.h0 ≠ q.h1
theorem Rep.lt {hp : List DObj} {n : Nat} {m : Bool} {q : Qs} (h : Rep hp n m q) : n < hp.length := (List.getElem?_eq_some_iff.1 h.o).1
theorem get_app {hp t : List DObj} {n : Nat} {o : DObj} (h : hp[n]? = some o) : (hp ++ t)[n]? = some o := by
  rw [List.getElem?_append_left (List.getElem?_eq_some_iff.1 h).1]; exact h
theorem Kept.app {hp t : List DObj} {n : Nat} {v : Vn} {h : Nat} (k : Kept hp n v h) : Kept (hp ++ t) n v h := ⟨fun e => ⟨get_app (k.1 e).1, (k.1 e).2⟩, k.2⟩
theorem Rep.app {hp t : List DObj} {n : Nat} {m : Bool} {q : Qs} (h : Rep hp n m q) : Rep (hp ++ t) n m q := ⟨get_app h.o, h.k0.app, h.k1.app, h.ne⟩
theorem hc_there {v v' : Vn} {h h' : Nat} (e : hc v h = hc v' h') (e2 : v.there = v'.there) : v.there = true → h = h' ∧ v.st.length = v'.st.length := fun k => by
  unfold hc at e
  rw [← e2, k] at e
  simp only [if_true, DV.own.injEq] at e
  exact ⟨e.1, e.2.1⟩
theorem oSt_inj {a b : List Int} (h : oSt a = oSt b) : a = b := by
  unfold oSt at h; injection h with _ _ h; exact ils_inj h
theorem Kept.u {hp : List DObj} {n n' : Nat} {v v' : Vn} {h h' : Nat} (k : Kept hp n v h) (k' : Kept hp n' v' h') (e : hc v h = hc v' h') (e2 : v.there = v'.there) (e3 : v.x = v'.x) : v = v' ∧ h = h' := by
  cases c : v.there
  · have a := k.2 c
    have b := k'.2 (e2.symm.trans c)
    exact ⟨a.1.trans b.1.symm, a.2.trans b.2.symm⟩
  · have a := (k.1 c).1
    have b := (k'.1 (e2.symm.trans c)).1
    have w := (hc_there e e2 c).1
    subst w
    have hs := oSt_inj (Option.some.inj (a.symm.trans b))
    obtain ⟨t, x, s⟩ := v; obtain ⟨t', x', s'⟩ := v'
    simp only at e2 e3 hs
    subst e2 e3 hs
    exact ⟨rfl, rfl⟩
theorem img_eq {x y : Img} (h1 : x.en.map cEn = y.en.map cEn) (h2 : x.ins.map cPrt = y.ins.map cPrt) (h3 : x.outs.map cPrt = y.outs.map cPrt) (h4 : x.slots.map cSlt = y.slots.map cSlt) (h5 : ils x.loc = ils y.loc) (h6 : x.code.map cIn4 = y.code.map cIn4) : x = y := by
  cases x; cases y
  simp only at h1 h2 h3 h4 h5 h6
  rw [map_inj cEn_inj _ _ h1, map_inj cPrt_inj _ _ h2, map_inj cPrt_inj _ _ h3, map_inj cSlt_inj _ _ h4, ils_inj h5, map_inj cIn4_inj _ _ h6]
theorem Rep.u {hp : List DObj} {n : Nat} {m m' : Bool} {q q' : Qs} (h : Rep hp n m q) (k : Rep hp n m' q') : m = m' ∧ q = q' := by
  have e := Option.some.inj (h.o.symm.trans k.o)
  unfold oQ at e
  simp only [DObj.mk.injEq, List.cons.injEq, DV.bool.injEq, DV.sl.injEq, DV.int.injEq, true_and, and_true] at e
  obtain ⟨e0, a0, a1, a2, a3, a4, a5, a6, a7, b0, b1, b2, b3, b4, b5, b6, b7, eb, ec⟩ := e
  have e1 := h.k0.u k.k0 a7 a0 (img_eq a1 a2 a3 a4 a5 a6)
  have e2 := h.k1.u k.k1 b7 b0 (img_eq b1 b2 b3 b4 b5 b6)
  have e3 : q.b = q'.b := by cases c : q.b <;> cases c' : q'.b <;> simp [c, c'] at eb ⊢
  obtain ⟨v0, v1, h0, h1, b, c⟩ := q
  obtain ⟨v0', v1', h0', h1', b', c'⟩ := q'
  simp only at e1 e2 e3 ec
  obtain ⟨rfl, rfl⟩ := e1
  obtain ⟨rfl, rfl⟩ := e2
  subst e3 ec e0
  exact ⟨rfl, rfl⟩

/-- A store, by its pointer: none is nobody. -/
abbrev Sp := Option (Nat × Bool × Qs)
def aS : Sp → DV
  | none => .nilp
  | some x => .ptr x.1 1 0 0
def RS : Sp → List DObj → Prop
  | none, _ => True
  | some x, hp => Rep hp x.1 x.2.1 x.2.2
def isS : Sp → Bool
  | none => false
  | some x => x.2.1
theorem RS_u {s s' : Sp} {hp : List DObj} (h : RS s hp) (h' : RS s' hp) (e : aS s = aS s') : s = s' := by
  rcases s with _ | ⟨n, m, q⟩ <;> rcases s' with _ | ⟨n', m', q'⟩
  · rfl
  · cases e
  · cases e
  · simp only [aS, DV.ptr.injEq, and_true] at e
    subst e
    obtain ⟨rfl, rfl⟩ := Rep.u h h'
    rfl
def rIs (s : Sp) (a : List DV) (hp : List DObj) : Prop := a = [aS s] ∧ RS s hp
theorem rIs_u : ∀ x y a hp, rIs x a hp → rIs y a hp → x = y := by
  rintro x y a hp ⟨rfl, h⟩ ⟨e, h'⟩
  exact RS_u h h' (by simpa using e)
noncomputable def s_is : List DV → List DObj → Res := specG rIs (fun s => (True, .bool (isS s))) (fun _ hp => hp)
theorem s_is_at {hp : List DObj} {n : Nat} {m : Bool} {q : Qs} (h : Rep hp n m q) : s_is [.ptr n 1 0 0] hp = ⟨True, .bool m, hp⟩ := specG_at (x := some (n, m, q)) rIs_u ⟨rfl, h⟩
theorem s_is_nil {hp : List DObj} : s_is [.nilp] hp = ⟨True, .bool false, hp⟩ := specG_at (x := none) rIs_u ⟨rfl, trivial⟩
theorem same_end {hp : List DObj} : ∀ (i : Nat) (x : DObj), hp[i]? = some x → hp[i]? = some x ∨ x.cut hp.length = x := fun _ _ h => .inl h
theorem ok_slot_is : OkH Try.prog 25 s_is := by
  refine OkH.mkG (ps := []) (hs := []) trivial trivial m_slot_Store_is (fun x a hp h => by rw [h.1]; rfl) (fun x a hp h _ => ?_)
  obtain ⟨rfl, hh⟩ := h
  
  rcases x with _ | ⟨n, m, q⟩
  · simp only [aS, isS]
    (have hcondQ := Bool.and_self; refine Todo.of ?_); (repeat' (first | ((with_reducible refine Todo.to ?_); (repeat (first | (simp only [↓rP, rT, rU, eI, eU, eB, eS, eBs, eL, eA, buildCells, sepsD, sepB, hdl, dvalX, DOp.kind, dval, frameFrom, dBin, dInt, dStr, dBeq, dUn, dLoad, cellsAt, retV, retL, DR.val, fzT, fzVs, fzV, fz1, DV.immB, IntKind.bits, dCallP, viewVs, viewV, view1, capVL, capV, viewL, noMemV, noMem, elemsOf, dAppend, dAppz, dStore, DV.one, alive, freezeAt, fzLL, fzL, bRow, bU, cellsOf, setFrom, DV.isU, lenMax, lenCap, Nat.reduceEqDiff, Nat.reduceAdd, ↓reduceIte, reduceCtorEq, Nat.reduceSub, Int.reduceToNat, Int.reducePow, Nat.reducePow, Int.reduceLE, Int.reduceLT, Nat.reduceLeDiff, Nat.reduceLT, Int.reduceBEq, Int.reduceBNe, Int.reduceEq, Int.reduceNe, Int.reduceAdd, Int.reduceSub, Int.reduceMul, Int.reduceNeg, Int.reduceTDiv, Int.reduceTMod, Int.reduceMod, Int.reduceDiv, Nat.reduceMul, forall_const, implies_true, d_slot_Store_is, eEns, eIls, eImg, ePrt, ePrts, eRows, eSs, eTy, eY, sls_len, ils_len, ils_rowsT, sls_rowsT, sls_tk0, ils_tk0, dPeq, endC_normal, endC_ret , hcondQ]) | (simp (disch := omega) only [i64_id, u64_id, u8_id, getD_map'])))) | ((with_reducible refine And.intro ?_ ?_); · first | trivial | omega | (simp; done) | (simp; omega)) | ((first | ((with_reducible refine dwp_condI (t := ?_) ?_ (fun hcQ => ?_) (fun hcQ => ?_)); rotate_left; · rfl) | ((with_reducible refine dops_guardI (t := ?_) ?_ (fun hcQ => ?_) (fun hcQ => ?_)); rotate_left; · rfl)) <;> (have hn := hcQ; have hcondQ := hcQ) <;> (try simp only [decide_eq_true_eq, decide_eq_false_iff_not, beq_iff_eq, bne_iff_ne, ne_eq, Bool.and_eq_true, Bool.or_eq_true, Bool.not_eq_true, Bool.not_eq_false, beq_eq_false_iff_ne, bne_eq_false_iff_eq, Bool.not_eq_true', Bool.not_eq_false', Int.ofNat_lt, Int.ofNat_le, Bool.or_eq_false_iff, Bool.and_eq_false_imp, Decidable.not_not, gt_iff_lt, ge_iff_le] at hn) <;> (try (exfalso; omega)) <;> (refine Todo.of ?_)) | (((with_reducible refine dwp_condA ?_ ?_ ?_); · rfl) <;> (refine Todo.of ?_)))) <;> (try (first | (with_reducible rfl) | exact Nat.le_refl _ | exact Int.le_refl _ | assumption | omega))
    exact same_end
  · have o := hh.o
    simp only [aS, isS]
    (have hcondQ := Bool.and_self; refine Todo.of ?_); (repeat' (first | ((with_reducible refine Todo.to ?_); (repeat (first | (simp only [↓rP, rT, rU, eI, eU, eB, eS, eBs, eL, eA, buildCells, sepsD, sepB, hdl, dvalX, DOp.kind, dval, frameFrom, dBin, dInt, dStr, dBeq, dUn, dLoad, cellsAt, retV, retL, DR.val, fzT, fzVs, fzV, fz1, DV.immB, IntKind.bits, dCallP, viewVs, viewV, view1, capVL, capV, viewL, noMemV, noMem, elemsOf, dAppend, dAppz, dStore, DV.one, alive, freezeAt, fzLL, fzL, bRow, bU, cellsOf, setFrom, DV.isU, lenMax, lenCap, Nat.reduceEqDiff, Nat.reduceAdd, ↓reduceIte, reduceCtorEq, Nat.reduceSub, Int.reduceToNat, Int.reducePow, Nat.reducePow, Int.reduceLE, Int.reduceLT, Nat.reduceLeDiff, Nat.reduceLT, Int.reduceBEq, Int.reduceBNe, Int.reduceEq, Int.reduceNe, Int.reduceAdd, Int.reduceSub, Int.reduceMul, Int.reduceNeg, Int.reduceTDiv, Int.reduceTMod, Int.reduceMod, Int.reduceDiv, Nat.reduceMul, forall_const, implies_true, d_slot_Store_is, eEns, eIls, eImg, ePrt, ePrts, eRows, eSs, eTy, eY, sls_len, ils_len, ils_rowsT, sls_rowsT, sls_tk0, ils_tk0, o, oQ, dPeq, endC_normal, endC_ret , hcondQ]) | (simp (disch := omega) only [i64_id, u64_id, u8_id, getD_map'])))) | ((with_reducible refine And.intro ?_ ?_); · first | trivial | omega | (simp; done) | (simp; omega)) | ((first | ((with_reducible refine dwp_condI (t := ?_) ?_ (fun hcQ => ?_) (fun hcQ => ?_)); rotate_left; · rfl) | ((with_reducible refine dops_guardI (t := ?_) ?_ (fun hcQ => ?_) (fun hcQ => ?_)); rotate_left; · rfl)) <;> (have hn := hcQ; have hcondQ := hcQ) <;> (try simp only [decide_eq_true_eq, decide_eq_false_iff_not, beq_iff_eq, bne_iff_ne, ne_eq, Bool.and_eq_true, Bool.or_eq_true, Bool.not_eq_true, Bool.not_eq_false, beq_eq_false_iff_ne, bne_eq_false_iff_eq, Bool.not_eq_true', Bool.not_eq_false', Int.ofNat_lt, Int.ofNat_le, Bool.or_eq_false_iff, Bool.and_eq_false_imp, Decidable.not_not, gt_iff_lt, ge_iff_le] at hn) <;> (try (exfalso; omega)) <;> (refine Todo.of ?_)) | (((with_reducible refine dwp_condA ?_ ?_ ?_); · rfl) <;> (refine Todo.of ?_)))) <;> (try (first | (with_reducible rfl) | exact Nat.le_refl _ | exact Int.le_refl _ | assumption | omega))
    exact same_end

/-- A number of a store is read. -/
def rLd (x : Bool × Nat × Bool × Qs) (a : List DV) (hp : List DObj) : Prop := a = [.ptr x.2.1 1 0 (if x.1 then 18 else 17)] ∧ Rep hp x.2.1 x.2.2.1 x.2.2.2
theorem rLd_u : ∀ x y a hp, rLd x a hp → rLd y a hp → x = y := by
  rintro ⟨w, n, m, q⟩ ⟨w', n', m', q'⟩ a hp ⟨rfl, h⟩ ⟨e, h'⟩
  simp only [List.cons.injEq, DV.ptr.injEq, true_and, and_true] at e
  obtain ⟨rfl, e⟩ := e
  obtain ⟨rfl, rfl⟩ := Rep.u h h'
  have : w = w' := by cases w <;> cases w' <;> simp at e ⊢
  rw [this]
noncomputable def s_aLoad : List DV → List DObj → Res := specG rLd (fun x => (True, .int .i64 (if x.1 then x.2.2.2.c else if x.2.2.2.b then 1 else 0))) (fun _ hp => hp)
theorem s_aLoad_17 {hp : List DObj} {n : Nat} {m : Bool} {q : Qs} (h : Rep hp n m q) : s_aLoad [.ptr n 1 0 17] hp = ⟨True, .int .i64 (if q.b then 1 else 0), hp⟩ := specG_at (x := (false, n, m, q)) rLd_u ⟨rfl, h⟩
theorem s_aLoad_18 {hp : List DObj} {n : Nat} {m : Bool} {q : Qs} (h : Rep hp n m q) : s_aLoad [.ptr n 1 0 18] hp = ⟨True, .int .i64 q.c, hp⟩ := specG_at (x := (true, n, m, q)) rLd_u ⟨rfl, h⟩
theorem ok_aLoad : OkH Try.prog 31 s_aLoad := by
  refine OkH.mkG (ps := []) (hs := []) trivial trivial m_sync_atomic_Int64_Load (fun x a hp h => by rw [h.1]; rfl) (fun x a hp h _ => ?_)
  obtain ⟨w, n, m, q⟩ := x
  obtain ⟨rfl, hh⟩ := h
  have o := hh.o
  
  cases w
  all_goals
    simp only [Bool.false_eq_true, if_true, if_false]
    (have hcondQ := Bool.and_self; refine Todo.of ?_); (repeat' (first | ((with_reducible refine Todo.to ?_); (repeat (first | (simp only [↓rP, rT, rU, eI, eU, eB, eS, eBs, eL, eA, buildCells, sepsD, sepB, hdl, dvalX, DOp.kind, dval, frameFrom, dBin, dInt, dStr, dBeq, dUn, dLoad, cellsAt, retV, retL, DR.val, fzT, fzVs, fzV, fz1, DV.immB, IntKind.bits, dCallP, viewVs, viewV, view1, capVL, capV, viewL, noMemV, noMem, elemsOf, dAppend, dAppz, dStore, DV.one, alive, freezeAt, fzLL, fzL, bRow, bU, cellsOf, setFrom, DV.isU, lenMax, lenCap, Nat.reduceEqDiff, Nat.reduceAdd, ↓reduceIte, reduceCtorEq, Nat.reduceSub, Int.reduceToNat, Int.reducePow, Nat.reducePow, Int.reduceLE, Int.reduceLT, Nat.reduceLeDiff, Nat.reduceLT, Int.reduceBEq, Int.reduceBNe, Int.reduceEq, Int.reduceNe, Int.reduceAdd, Int.reduceSub, Int.reduceMul, Int.reduceNeg, Int.reduceTDiv, Int.reduceTMod, Int.reduceMod, Int.reduceDiv, Nat.reduceMul, forall_const, implies_true, d_sync_atomic_Int64_Load, eEns, eIls, eImg, ePrt, ePrts, eRows, eSs, eTy, eY, sls_len, ils_len, ils_rowsT, sls_rowsT, sls_tk0, ils_tk0, o, oQ, List.drop_succ_cons, endC_normal, endC_ret , hcondQ]) | (simp (disch := omega) only [i64_id, u64_id, u8_id, getD_map'])))) | ((with_reducible refine And.intro ?_ ?_); · first | trivial | omega | (simp; done) | (simp; omega)) | ((first | ((with_reducible refine dwp_condI (t := ?_) ?_ (fun hcQ => ?_) (fun hcQ => ?_)); rotate_left; · rfl) | ((with_reducible refine dops_guardI (t := ?_) ?_ (fun hcQ => ?_) (fun hcQ => ?_)); rotate_left; · rfl)) <;> (have hn := hcQ; have hcondQ := hcQ) <;> (try simp only [decide_eq_true_eq, decide_eq_false_iff_not, beq_iff_eq, bne_iff_ne, ne_eq, Bool.and_eq_true, Bool.or_eq_true, Bool.not_eq_true, Bool.not_eq_false, beq_eq_false_iff_ne, bne_eq_false_iff_eq, Bool.not_eq_true', Bool.not_eq_false', Int.ofNat_lt, Int.ofNat_le, Bool.or_eq_false_iff, Bool.and_eq_false_imp, Decidable.not_not, gt_iff_lt, ge_iff_le] at hn) <;> (try (exfalso; omega)) <;> (refine Todo.of ?_)) | (((with_reducible refine dwp_condA ?_ ?_ ?_); · rfl) <;> (refine Todo.of ?_)))) <;> (try (first | (with_reducible rfl) | exact Nat.le_refl _ | exact Int.le_refl _ | assumption | omega))
    exact same_end

def rQ (x : Nat × Bool × Qs) (a : List DV) (hp : List DObj) : Prop := a = [.ptr x.1 1 0 0] ∧ Rep hp x.1 x.2.1 x.2.2
theorem rQ_u : ∀ x y a hp, rQ x a hp → rQ y a hp → x = y := by
  rintro ⟨n, m, q⟩ ⟨n', m', q'⟩ a hp ⟨rfl, h⟩ ⟨e, h'⟩
  simp only [List.cons.injEq, DV.ptr.injEq, and_true] at e
  subst e
  obtain ⟨rfl, rfl⟩ := Rep.u h h'
  rfl
noncomputable def s_held : List DV → List DObj → Res := specG rQ (fun x => (True, .ptr x.1 1 0 (if x.2.2.b then 9 else 1))) (fun _ hp => hp)
theorem s_held_at {hp : List DObj} {n : Nat} {m : Bool} {q : Qs} (h : Rep hp n m q) : s_held [.ptr n 1 0 0] hp = ⟨True, .ptr n 1 0 (if q.b then 9 else 1), hp⟩ := specG_at (x := (n, m, q)) rQ_u ⟨rfl, h⟩
theorem ok_held : OkH Try.prog 27 s_held := by
  refine OkH.mkG (ps := []) (hs := [(31, s_aLoad)]) trivial ⟨ok_aLoad, trivial⟩ m_slot_Store_held (fun x a hp h => by rw [h.1]; rfl) (fun x a hp h _ => ?_)
  obtain ⟨n, m, q⟩ := x
  obtain ⟨rfl, hh⟩ := h
  have o := hh.o
  have hn := hh.lt
  have e := s_aLoad_17 hh
  
  cases b : q.b
  all_goals
    rw [b] at e
    simp only [Bool.false_eq_true, if_true, if_false] at e ⊢
    (have hcondQ := Bool.and_self; refine Todo.of ?_); (repeat' (first | ((with_reducible refine Todo.to ?_); (repeat (first | (simp only [↓rP, rT, rU, eI, eU, eB, eS, eBs, eL, eA, buildCells, sepsD, sepB, hdl, dvalX, DOp.kind, dval, frameFrom, dBin, dInt, dStr, dBeq, dUn, dLoad, cellsAt, retV, retL, DR.val, fzT, fzVs, fzV, fz1, DV.immB, IntKind.bits, dCallP, viewVs, viewV, view1, capVL, capV, viewL, noMemV, noMem, elemsOf, dAppend, dAppz, dStore, DV.one, alive, freezeAt, fzLL, fzL, bRow, bU, cellsOf, setFrom, DV.isU, lenMax, lenCap, Nat.reduceEqDiff, Nat.reduceAdd, ↓reduceIte, reduceCtorEq, Nat.reduceSub, Int.reduceToNat, Int.reducePow, Nat.reducePow, Int.reduceLE, Int.reduceLT, Nat.reduceLeDiff, Nat.reduceLT, Int.reduceBEq, Int.reduceBNe, Int.reduceEq, Int.reduceNe, Int.reduceAdd, Int.reduceSub, Int.reduceMul, Int.reduceNeg, Int.reduceTDiv, Int.reduceTMod, Int.reduceMod, Int.reduceDiv, Nat.reduceMul, forall_const, implies_true, d_slot_Store_held, eEns, eIls, eImg, ePrt, ePrts, eRows, eSs, eTy, eY, sls_len, ils_len, ils_rowsT, sls_rowsT, sls_tk0, ils_tk0, e, o, oQ, endC_normal, endC_ret , hcondQ]) | (simp (disch := omega) only [i64_id, u64_id, u8_id, getD_map'])))) | ((with_reducible refine And.intro ?_ ?_); · first | trivial | omega | (simp; done) | (simp; omega)) | ((first | ((with_reducible refine dwp_condI (t := ?_) ?_ (fun hcQ => ?_) (fun hcQ => ?_)); rotate_left; · rfl) | ((with_reducible refine dops_guardI (t := ?_) ?_ (fun hcQ => ?_) (fun hcQ => ?_)); rotate_left; · rfl)) <;> (have hn := hcQ; have hcondQ := hcQ) <;> (try simp only [decide_eq_true_eq, decide_eq_false_iff_not, beq_iff_eq, bne_iff_ne, ne_eq, Bool.and_eq_true, Bool.or_eq_true, Bool.not_eq_true, Bool.not_eq_false, beq_eq_false_iff_ne, bne_eq_false_iff_eq, Bool.not_eq_true', Bool.not_eq_false', Int.ofNat_lt, Int.ofNat_le, Bool.or_eq_false_iff, Bool.and_eq_false_imp, Decidable.not_not, gt_iff_lt, ge_iff_le] at hn) <;> (try (exfalso; omega)) <;> (refine Todo.of ?_)) | (((with_reducible refine dwp_condA ?_ ?_ ?_); · rfl) <;> (refine Todo.of ?_)))) <;> (try (first | (with_reducible rfl) | exact Nat.le_refl _ | exact Int.le_refl _ | assumption | omega))
    exact ⟨by simpa [DV.inB] using hn, ⟨[], (List.append_nil _).symm⟩, same_end⟩
noncomputable def s_other : List DV → List DObj → Res := specG rQ (fun x => (True, .ptr x.1 1 0 (if x.2.2.b then 1 else 9))) (fun _ hp => hp)
theorem s_other_at {hp : List DObj} {n : Nat} {m : Bool} {q : Qs} (h : Rep hp n m q) : s_other [.ptr n 1 0 0] hp = ⟨True, .ptr n 1 0 (if q.b then 1 else 9), hp⟩ := specG_at (x := (n, m, q)) rQ_u ⟨rfl, h⟩
theorem ok_other : OkH Try.prog 29 s_other := by
  refine OkH.mkG (ps := []) (hs := [(31, s_aLoad)]) trivial ⟨ok_aLoad, trivial⟩ m_slot_Store_other (fun x a hp h => by rw [h.1]; rfl) (fun x a hp h _ => ?_)
  obtain ⟨n, m, q⟩ := x
  obtain ⟨rfl, hh⟩ := h
  have o := hh.o
  have hn := hh.lt
  have e := s_aLoad_17 hh
  have w0 : IntKind.i64.wrap 1 = 1 := by decide
  have w1 : IntKind.i64.wrap 0 = 0 := by decide
  
  cases b : q.b
  all_goals
    rw [b] at e
    simp only [Bool.false_eq_true, if_true, if_false] at e ⊢
    (have hcondQ := Bool.and_self; refine Todo.of ?_); (repeat' (first | ((with_reducible refine Todo.to ?_); (repeat (first | (simp only [↓rP, rT, rU, eI, eU, eB, eS, eBs, eL, eA, buildCells, sepsD, sepB, hdl, dvalX, DOp.kind, dval, frameFrom, dBin, dInt, dStr, dBeq, dUn, dLoad, cellsAt, retV, retL, DR.val, fzT, fzVs, fzV, fz1, DV.immB, IntKind.bits, dCallP, viewVs, viewV, view1, capVL, capV, viewL, noMemV, noMem, elemsOf, dAppend, dAppz, dStore, DV.one, alive, freezeAt, fzLL, fzL, bRow, bU, cellsOf, setFrom, DV.isU, lenMax, lenCap, Nat.reduceEqDiff, Nat.reduceAdd, ↓reduceIte, reduceCtorEq, Nat.reduceSub, Int.reduceToNat, Int.reducePow, Nat.reducePow, Int.reduceLE, Int.reduceLT, Nat.reduceLeDiff, Nat.reduceLT, Int.reduceBEq, Int.reduceBNe, Int.reduceEq, Int.reduceNe, Int.reduceAdd, Int.reduceSub, Int.reduceMul, Int.reduceNeg, Int.reduceTDiv, Int.reduceTMod, Int.reduceMod, Int.reduceDiv, Nat.reduceMul, forall_const, implies_true, d_slot_Store_other, eEns, eIls, eImg, ePrt, ePrts, eRows, eSs, eTy, eY, sls_len, ils_len, ils_rowsT, sls_rowsT, sls_tk0, ils_tk0, e, o, oQ, w0, w1, endC_normal, endC_ret , hcondQ]) | (simp (disch := omega) only [i64_id, u64_id, u8_id, getD_map'])))) | ((with_reducible refine And.intro ?_ ?_); · first | trivial | omega | (simp; done) | (simp; omega)) | ((first | ((with_reducible refine dwp_condI (t := ?_) ?_ (fun hcQ => ?_) (fun hcQ => ?_)); rotate_left; · rfl) | ((with_reducible refine dops_guardI (t := ?_) ?_ (fun hcQ => ?_) (fun hcQ => ?_)); rotate_left; · rfl)) <;> (have hn := hcQ; have hcondQ := hcQ) <;> (try simp only [decide_eq_true_eq, decide_eq_false_iff_not, beq_iff_eq, bne_iff_ne, ne_eq, Bool.and_eq_true, Bool.or_eq_true, Bool.not_eq_true, Bool.not_eq_false, beq_eq_false_iff_ne, bne_eq_false_iff_eq, Bool.not_eq_true', Bool.not_eq_false', Int.ofNat_lt, Int.ofNat_le, Bool.or_eq_false_iff, Bool.and_eq_false_imp, Decidable.not_not, gt_iff_lt, ge_iff_le] at hn) <;> (try (exfalso; omega)) <;> (refine Todo.of ?_)) | (((with_reducible refine dwp_condA ?_ ?_ ?_); · rfl) <;> (refine Todo.of ?_)))) <;> (try (first | (with_reducible rfl) | exact Nat.le_refl _ | exact Int.le_refl _ | assumption | omega))
    exact ⟨by simpa [DV.inB] using hn, ⟨[], (List.append_nil _).symm⟩, same_end⟩
end Go.Proofs.Ytfjddinibppmdaa
