/- Numbers one behind the other; what a step makes. -/
import Derived.Test.YtjgefhgkinocmaaGreatMvA
set_option linter.all false
set_option maxRecDepth 20000
namespace Go.Proofs.YtjgefhgkinocmaaGreat
open Go.Nk

/-- What Grow leaves behind that nobody names. -/
def gH (n : Nat) : List DObj := if n = 0 then [] else [⟨.dead, 1, List.replicate n [.int .i64 0]⟩, ⟨.dead, 1, []⟩]
noncomputable def s_Grow : List DV → List DObj → Res := specG (fun (x : Nat × Nat) a hp => a = [.nil, .int .i64 x.1] ∧ x.2 = hp.length) (fun x => (x.1 ≤ 1000000000, .own (x.2 + (gH x.1).length) 0 0 0)) fun x hp => hp ++ (gH x.1 ++ [⟨.imm, 1, []⟩])
theorem s_Grow_run (n : Nat) (hp : List DObj) : s_Grow [.nil, .int .i64 n] hp = ⟨n ≤ 1000000000, .own (hp.length + (gH n).length) 0 0 0, hp ++ (gH n ++ [⟨.imm, 1, []⟩])⟩ := by
  refine specG_at (x := (n, hp.length)) ?_ ⟨rfl, rfl⟩
  rintro ⟨x1, x2⟩ ⟨y1, y2⟩ a hp ⟨rfl, rfl⟩ ⟨h, rfl⟩
  simp only [List.cons.injEq, DV.int.injEq, true_and, and_true] at h
  have : x1 = y1 := by omega
  subst this; rfl
theorem ok_slices_Grow_int64_int64 : OkH Tryz.prog 116 s_Grow := by
  refine OkH.mkGH (ps := []) (hs := []) trivial trivial m_slices_Grow_int64_int64 (by rintro x a hp ⟨rfl, _⟩; rfl) ?_
  rintro ⟨n, L⟩ a hp ⟨rfl, rfl⟩ hl
  simp only at hl ⊢
  
  by_cases q : n = 0
  · subst q
    (have hcondQ := Bool.and_self; refine Todo.of ?_); (repeat' (first | ((with_reducible refine Todo.to ?_); (repeat (first | (simp only [↓rP, rT, rU, dvalX, dval, frameFrom, dBin, dInt, retV, DR.val, Nat.reduceEqDiff, ↓reduceIte, reduceCtorEq, Int.reduceSub, d_slices_Grow_int64_int64, gH, Nat.add_zero ]) | ((simp (disch := omega) only [i64_id])))))))
  · (have hcondQ := Bool.and_self; refine Todo.of ?_); (repeat' (first | ((with_reducible refine Todo.to ?_); (repeat (first | (simp only [↓rP, rT, rU, dvalX, dval, frameFrom, dBin, dInt, retV, DR.val, dAppz, lenMax, Nat.reduceEqDiff, Nat.reduceAdd, ↓reduceIte, reduceCtorEq, Nat.reduceSub, Int.reduceToNat, Int.reduceLE, Nat.reduceLeDiff, d_slices_Grow_int64_int64, gH, q, List.append_assoc, Nat.add_zero, lst_get, lst_get1, lst_set, lst_set1, dSlice, dBound, Int.sub_zero , hcondQ]) | ((simp (disch := omega) only [i64_id]))))) | ((with_reducible refine And.intro ?_ ?_); · first | (trivial) | (omega) | ((simp; done))) | (((((with_reducible refine dwp_condI (t := ?_) ?_ (fun hcQ => ?_) (fun hcQ => ?_)); rotate_left; · (rfl))) <;> (have hn := hcQ; have hcondQ := hcQ) <;> (try simp only [decide_eq_true_eq, decide_eq_false_iff_not] at hn) <;> (try (exfalso; omega)) <;> (refine Todo.of ?_))) | fail)) <;> (try (omega))
theorem il_rowsT (l : List Int) : (∀ e ∈ il l, e.length = 1) = True := eq_true (il_rows l)
theorem il_appendR (a b : List Int) : il a ++ il b = il (a ++ b) := by simp [il]
noncomputable def s_ConcatH : List DV → List DObj → Res := specG (fun (x : List (List Int) × Nat) a hp => a = [.sl (x.1.map cIr)] ∧ x.2 = hp.length) (fun x => (x.1.length ≤ 1000000 ∧ x.1.flatten.length ≤ 1000000000, .own (x.2 + (gH x.1.flatten.length).length) x.1.flatten.length 0 x.1.flatten.length)) fun x hp => hp ++ (gH x.1.flatten.length ++ [⟨.imm, 1, il x.1.flatten⟩])
theorem s_ConcatH_run (v : List (List Int)) (hp : List DObj) : s_ConcatH [.sl (v.map cIr)] hp = ⟨v.length ≤ 1000000 ∧ v.flatten.length ≤ 1000000000, .own (hp.length + (gH v.flatten.length).length) v.flatten.length 0 v.flatten.length, hp ++ (gH v.flatten.length ++ [⟨.imm, 1, il v.flatten⟩])⟩ := by
  refine specG_at (x := (v, hp.length)) ?_ ⟨rfl, rfl⟩
  rintro ⟨x, m⟩ ⟨y, m'⟩ a hp ⟨rfl, rfl⟩ ⟨h, rfl⟩
  simp only [List.cons.injEq, DV.sl.injEq, and_true] at h
  rw [map_inj cIr_inj _ _ h]
theorem ok_slices_Concat_int64_int64 : OkH Tryz.prog 94 s_ConcatH := by
  refine OkH.mkGH (ps := []) (hs := [(116, s_Grow)]) trivial ⟨ok_slices_Grow_int64_int64, trivial⟩ m_slices_Concat_int64_int64 (by rintro x a hp ⟨rfl, _⟩; rfl) ?_
  rintro ⟨v, m⟩ a hp ⟨rfl, rfl⟩ ⟨hl, hf⟩
  simp only at hl hf ⊢
  
  (have hcondQ := Bool.and_self; refine Todo.of ?_); (repeat' (first | ((with_reducible refine Todo.to ?_); (repeat (simp only [↓rP, rT, rU, dvalX, dval, frameFrom, ↓reduceIte, reduceCtorEq, d_slices_Concat_int64_int64 ])))))
  refine dwp_each v (fun k (n : Nat) => ⟨[(0, .sl (v.map cIr)), (3, .int .i64 n), (9, .sl (v.map cIr)), (10, .int .i64 v.length), (11, .int .i64 k)], hp⟩) (fun k r n => n + r.flatten.length = v.flatten.length) 0 trivial (by simp only [cut_none, List.map_cons, List.map_nil, get_cons, Nk.get_nil, Nat.reduceEqDiff, ↓reduceIte, reduceCtorEq] <;> rfl) (by simp) (fun k x r n d hx hd hr => ?_) (fun k n e hr => ?_)
  · simp only [List.flatten_cons, List.length_append] at hr
    (have hcondQ := Bool.and_self; refine Todo.of ?_); (repeat' (first | ((with_reducible refine Todo.to ?_); (repeat (first | (simp only [↓rP, rT, rU, dvalX, dval, dBin, dInt, dLoad, cellsAt, Nat.reduceEqDiff, ↓reduceIte, reduceCtorEq, il_len, d, map_getD cIr hx , hcondQ]) | ((simp (disch := omega) only [i64_id]))))) | ((with_reducible refine And.intro ?_ ?_); · omega) | (((((with_reducible refine dwp_condI (t := ?_) ?_ (fun hcQ => ?_) (fun hcQ => ?_)); rotate_left; · (rfl))) <;> (have hn := hcQ; have hcondQ := hcQ) <;> (try simp only [decide_eq_true_eq, decide_eq_false_iff_not] at hn) <;> (try (exfalso; omega)) <;> (refine Todo.of ?_))) | fail))
    exact ⟨n + x.length, by simp only [cut_none, List.map_cons, List.map_nil, get_cons, Nk.get_nil, Nat.reduceEqDiff, ↓reduceIte, Nat.succ_ne_self, reduceCtorEq, Int.natCast_add, Int.natCast_one] <;> rfl, by omega⟩
  simp only [List.flatten_nil, List.length_nil, Nat.add_zero] at hr
  subst hr
  have e1 := s_Grow_run v.flatten.length hp
  (have hcondQ := Bool.and_self; refine Todo.of ?_); (repeat' (first | ((with_reducible refine Todo.to ?_); (repeat (simp only [↓rP, rT, rU, dvalX, dval, dBin, dInt, Nat.reduceEqDiff, ↓reduceIte, reduceCtorEq, e, e1 ]))) | ((with_reducible refine And.intro ?_ ?_); · trivial) | fail))
  refine dwp_each v (fun k (o : List Int) => ⟨[(6, .own (hp.length + (gH v.flatten.length).length) o.length 0 o.length), (25, .sl (v.map cIr)), (26, .int .i64 v.length), (27, .int .i64 k)], hp ++ (gH v.flatten.length ++ [⟨.imm, 1, il o⟩])⟩) (fun k r o => o ++ r.flatten = v.flatten) [] trivial (by simp only [cut_none, List.map_cons, List.map_nil, get_cons, Nk.get_nil, Nat.reduceEqDiff, ↓reduceIte, List.length_nil] <;> rfl) rfl (fun k x r o d hx hd hr => ?_) (fun k o e hr => ?_)
  · simp only [List.flatten_cons] at hr
    have hb : o.length + x.length ≤ v.flatten.length := by rw [← hr]; simp
    (have hcondQ := Bool.and_self; refine Todo.of ?_); (repeat' (first | ((with_reducible refine Todo.to ?_); (repeat (first | (simp only [↓rP, rT, rU, dvalX, dval, dBin, dInt, dLoad, cellsAt, elemsOf, dAppend, lenMax, Nat.reduceEqDiff, ↓reduceIte, il_len, il_rowsT, d, map_getD cIr hx, last_get, last_set, il_appendR ]) | ((simp (disch := omega) only [i64_id]))))) | ((with_reducible refine And.intro ?_ ?_); · omega) | fail))
    exact ⟨o ++ x, by simp only [cut_none, List.map_cons, List.map_nil, get_cons, Nk.get_nil, Nat.reduceEqDiff, ↓reduceIte, Nat.succ_ne_self, Int.natCast_add, Int.natCast_one, List.length_append] <;> rfl, by simpa using hr⟩
  · simp only [List.flatten_nil, List.append_nil] at hr
    subst hr
    (have hcondQ := Bool.and_self; refine Todo.of ?_); (repeat' (first | ((with_reducible refine Todo.to ?_); (repeat (simp only [↓rP, rT, rU, dvalX, dval, dBin, dInt, retV, DR.val, Nat.reduceEqDiff, ↓reduceIte, e ])))))

/-! what a step makes -/
structure Told where
  v : List Int
  n : Int
  e : Int
@[reducible] def cTold (t : Told) : List DV := [.sl (il t.v), .int .i64 t.n, .int .i64 t.e]
def zerosF (n : Int) : List Int := List.replicate n.toNat 0
def runF (p : Pln) (old : List Int) (fuel : Int) : Told :=
  let r := vmF p.code (old ++ zerosF p.len) fuel
  if r.2.2 = 0 then ⟨r.1.drop old.length, r.2.1, 0⟩ else ⟨[], r.2.1, r.2.2⟩
def oneM (p : Pln) (old : List Int) (fuel : Int) : Told :=
  if p.kind = 1 then ⟨(old.take (p.old + p.len).toNat).drop p.old.toNat, 0, 0⟩ else if p.kind = 2 then ⟨p.init, 0, 0⟩ else runF p old fuel
structure okOne (p : Pln) (old : List Int) (fuel : Int) : Prop where
  l0 : 1 ≤ p.len
  l8 : p.len ≤ 8
  o : old.length ≤ 1100
  k1 : p.kind = 1 → 0 ≤ p.old ∧ p.old + p.len ≤ old.length
  i : p.init.length ≤ 20
  c : p.code.length ≤ 1500
  f : fuel ≤ 3000
  ci : ∀ x ∈ old, in64 x
  ins : ∀ i ∈ p.code, in64 i.n
theorem okOne.vm {p : Pln} {old : List Int} {fuel : Int} (h : okOne p old fuel) : okVm p.code (old ++ zerosF p.len) fuel := by
  have := h.o; have := h.l8; have := h.c; have := h.f; have := h.l0
  refine ⟨by omega, by omega, h.ins, by simp [zerosF]; omega, fun x hx => ?_⟩
  rcases List.mem_append.1 hx with hx | hx
  · exact h.ci x hx
  · simp only [zerosF, List.mem_replicate] at hx; rw [hx.2]; exact ⟨by omega, by omega⟩
theorem vm_facts {code : List Ins} {cells : List Int} {fuel : Int} (h : okVm code cells fuel) : ((vmF code cells fuel).2.2 = 0 → (vmF code cells fuel).1.length = cells.length) ∧ 0 ≤ (vmF code cells fuel).2.1 ∧ (vmF code cells fuel).2.1 ≤ fuel.toNat := by
  have h1 := h.len; have h2 := h.fuel
  have := runN_ok code h.ins h.len fuel.toNat (m0 cells) (okM_0 h.c h.ci) (by simp [m0]) (by simp [m0]; omega)
  obtain ⟨r1, r2, r3, r4⟩ := this
  have z : (m0 cells).used = 0 := rfl
  rw [z] at r3 r4
  unfold vmF
  dsimp only
  generalize runN code fuel.toNat (m0 cells) = R at *
  split
  · exact ⟨fun _ => rfl, r3, by simp only; omega⟩
  · exact ⟨fun _ => r2, r3, by simp only; omega⟩
theorem one_n {p : Pln} {old : List Int} {fuel : Int} (h : okOne p old fuel) : 0 ≤ (oneM p old fuel).n ∧ (oneM p old fuel).n ≤ fuel.toNat := by
  unfold oneM
  split
  · exact ⟨Int.le_refl _, by simp only; omega⟩
  split
  · exact ⟨Int.le_refl _, by simp only; omega⟩
  unfold runF
  have := (vm_facts h.vm).2
  dsimp only
  split <;> exact this
theorem one_v {p : Pln} {old : List Int} {fuel : Int} (h : okOne p old fuel) : (oneM p old fuel).v.length ≤ 20 := by
  have h8 := h.l8; have h0 := h.l0
  unfold oneM
  split
  · rename_i k
    have := h.k1 k
    simp; omega
  split
  · exact h.i
  unfold runF
  have := (vm_facts h.vm).1
  dsimp only
  split
  · rename_i e
    have := this e
    show ((vmF p.code (old ++ zerosF p.len) fuel).1.drop old.length).length ≤ 20
    rw [List.length_drop, this, List.length_append]; simp only [zerosF, List.length_replicate]; omega
  · simp
theorem il_rep (n : Nat) : List.replicate n [DV.int .i64 0] = il (List.replicate n 0) := by simp [il]
theorem slice_il {hp : List DObj} {l : List Int} {a b : Int} (h1 : 0 ≤ a) (h2 : a ≤ b) (h3 : b ≤ l.length) : dSlice hp 1 (.sl (il l)) (some (.int .i64 a)) (some (.int .i64 b)) none = (True, .sl (il ((l.take b.toNat).drop a.toNat))) := by
  simp only [dSlice, dBound, il_len, Option.isSome_none, Prod.mk.injEq]
  refine ⟨eq_true ⟨il_rows l, trivial, trivial, trivial, by simp, h1, h2, Int.le_refl _, h3⟩, ?_⟩
  simp [il]
theorem slice_ilL {hp : List DObj} {l : List Int} {a : Int} (h1 : 0 ≤ a) (h3 : a ≤ l.length) : dSlice hp 1 (.sl (il l)) (some (.int .i64 a)) none none = (True, .sl (il (l.drop a.toNat))) := by
  simp only [dSlice, dBound, il_len, Option.isSome_none, Prod.mk.injEq]
  refine ⟨eq_true ⟨il_rows l, trivial, trivial, trivial, by simp, h1, h3, Int.le_refl _, Int.le_refl _⟩, ?_⟩
  rw [Int.toNat_natCast, List.take_of_length_le (by rw [il_len]; exact Nat.le_refl _)]
  simp [il]
theorem two_get {a b o : DObj} {g : List DObj} : (a :: b :: (g ++ [o]))[2 + g.length]? = some o := by
  rw [show 2 + g.length = g.length + 1 + 1 by omega, List.getElem?_cons_succ, List.getElem?_cons_succ, List.getElem?_append_right (Nat.le_refl _)]; simp
theorem two_set {a b o o' : DObj} {g : List DObj} : (a :: b :: (g ++ [o])).set (2 + g.length) o' = a :: b :: (g ++ [o']) := by
  rw [show 2 + g.length = g.length + 1 + 1 by omega, List.set_cons_succ, List.set_cons_succ, List.set_append_right _ _ (Nat.le_refl _)]; simp
noncomputable def s_mrun : List DV → Prop × DV := spec3 ePln eIl eI fun p o f => (okOne p o f, .agg (cTold (runF p o f)))
theorem s_mrun_at (p : Pln) (o : List Int) (f : Int) : s_mrun [.agg (cPln p), .sl (il o), .int .i64 f] = (okOne p o f, .agg (cTold (runF p o f))) := spec3_at inj_Pln inj_Il inj_I _ p o f
theorem ok_move_run : OkP Tryz.prog 71 s_mrun := by
  refine OkP.mk3 (ps := [(95, s_vm)]) (hs := [(94, s_ConcatH)]) ⟨ok_vm, trivial⟩ ⟨ok_slices_Concat_int64_int64, trivial⟩ m_move_run fun p old fuel h => ?_
  have ho := h.o; have h8 := h.l8; have h0 := h.l0
  have ev := s_vm_at p.code (old ++ zerosF p.len) fuel
  have hk := h.vm
  unfold fVm at ev
  rw [eq_true hk] at ev
  have fl : [old, List.replicate p.len.toNat 0].flatten = old ++ zerosF p.len := by simp [zerosF]
  have ec := fun hp => s_ConcatH_run [old, List.replicate p.len.toNat 0] hp
  simp only [fl, List.map_cons, List.map_nil] at ec
  have hl : (old ++ zerosF p.len).length ≤ 1000000000 := by simp [zerosF]; omega
  have tk : (il (old ++ zerosF p.len)).take (old ++ zerosF p.len).length = il (old ++ zerosF p.len) := List.take_of_length_le (by rw [il_len]; exact Nat.le_refl _)
  have tz : (il (List.replicate p.len.toNat 0)).take p.len.toNat = il (List.replicate p.len.toNat 0) := List.take_of_length_le (by rw [il_len, List.length_replicate]; exact Nat.le_refl _)
  have hr := (vm_facts hk).1
  have hll : (old ++ zerosF p.len).length = old.length + p.len.toNat := by simp [zerosF]
  generalize hcs : old ++ zerosF p.len = cs at *
  have eR : runF p old fuel = (let r := vmF p.code cs fuel; if r.2.2 = 0 then ⟨r.1.drop old.length, r.2.1, 0⟩ else ⟨[], r.2.1, r.2.2⟩) := by rw [← hcs]; rfl
  
  by_cases e : (vmF p.code cs fuel).2.2 = 0
  · have hr := hr e
    have e2 : runF p old fuel = ⟨(vmF p.code cs fuel).1.drop old.length, (vmF p.code cs fuel).2.1, 0⟩ := by rw [eR]; dsimp only; rw [if_pos e]
    rw [e2]
    generalize vmF p.code cs fuel = R at *
    have sl := fun hp => slice_ilL (hp := hp) (l := R.1) (a := (old.length : Int)) (by omega) (by omega)
    rw [Int.toNat_natCast] at sl
    (have hcondQ := Bool.and_self; refine Todo.of ?_); (repeat' (first | ((with_reducible refine Todo.to ?_); (repeat (simp only [↓rP, rT, rU, eI, eA, buildCells, dvalX, dval, dBin, dInt, dLoad, cellsAt, retV, DR.val, fzT, fzVs, fzV, fz1, DV.immB, dCallP, viewVs, viewV, view1, noMemV, noMem, elemsOf, dStore, DV.one, freezeAt, fzLL, fzL, bRow, bU, cellsOf, setFrom, DV.isU, lenCap, Nat.reduceEqDiff, Nat.reduceAdd, ↓reduceIte, reduceCtorEq, Nat.reduceLeDiff, Nat.reduceLT, forall_const, d_move_run, eIl, ePln, il_len, ec, ev, hl, tk, tz, e, sl, il_rep, two_get, two_set, hcondQ]))) | ((with_reducible refine And.intro ?_ ?_); · omega) | fail)) <;> (try (exact Nat.le_refl _))
  · have e2 : runF p old fuel = ⟨[], (vmF p.code cs fuel).2.1, (vmF p.code cs fuel).2.2⟩ := by rw [eR]; dsimp only; rw [if_neg e]
    rw [e2]
    generalize vmF p.code cs fuel = R at *
    have e3 : (R.2.2 != 0) = true := by simp [e]
    (have hcondQ := Bool.and_self; refine Todo.of ?_); (repeat' (first | ((with_reducible refine Todo.to ?_); (repeat (simp only [↓rP, rT, rU, eI, eA, buildCells, dvalX, dval, dBin, dInt, dLoad, cellsAt, retV, DR.val, fzT, fzVs, fzV, fz1, DV.immB, dCallP, viewVs, viewV, view1, noMemV, noMem, elemsOf, dStore, DV.one, freezeAt, fzLL, fzL, bRow, bU, cellsOf, setFrom, DV.isU, lenCap, Nat.reduceEqDiff, Nat.reduceAdd, ↓reduceIte, reduceCtorEq, Nat.reduceLeDiff, Nat.reduceLT, forall_const, d_move_run, eIl, ePln, il_len, ec, ev, hl, tk, tz, e3, il_rep, two_get, two_set, hcondQ]))) | ((with_reducible refine And.intro ?_ ?_); · omega) | fail))
    all_goals rfl
end Go.Proofs.YtjgefhgkinocmaaGreat

/- A step alone, of the program and of the document. -/
set_option linter.all false
set_option maxRecDepth 20000
namespace Go.Proofs.YtjgefhgkinocmaaGreat
open Go.Nk
noncomputable def s_mone : List DV → Prop × DV := spec3 ePln eIl eI fun p o f => (okOne p o f, .agg (cTold (oneM p o f)))
theorem s_mone_at (p : Pln) (o : List Int) (f : Int) : s_mone [.agg (cPln p), .sl (il o), .int .i64 f] = (okOne p o f, .agg (cTold (oneM p o f))) := spec3_at inj_Pln inj_Il inj_I _ p o f
theorem ok_move_one : OkP Tryz.prog 45 s_mone := by
  refine OkP.mk3 (ps := [(71, s_mrun), (52, s_CloneP)]) (hs := []) ⟨ok_move_run, ok_CloneP, trivial⟩ trivial m_move_one fun p old fuel h => ?_
  try dsimp only at h
  have ho := h.o; have h8 := h.l8; have h0 := h.l0; have hi := h.i
  by_cases k1 : p.kind = 1
  · obtain ⟨q1, q2⟩ := h.k1 k1
    have e2 : oneM p old fuel = ⟨(old.take (p.old + p.len).toNat).drop p.old.toNat, 0, 0⟩ := by unfold oneM; rw [if_pos k1]
    have w : IntKind.i64.wrap (p.old + p.len) = p.old + p.len := wrap_i64_id (by omega)
    have sl := fun hp => slice_il (hp := hp) (l := old) (a := p.old) (b := p.old + p.len) q1 (by omega) q2
    have hl : ((old.take (p.old + p.len).toNat).drop p.old.toNat).length ≤ 4294967296 := by simp; omega
    have ecl := s_CloneP_at ((old.take (p.old + p.len).toNat).drop p.old.toNat)
    rw [e2]
    (have hcondQ := Bool.and_self; refine Todo.of ?_); (repeat' (first | ((with_reducible refine Todo.to ?_); (repeat (simp only [↓rP, rT, rU, eI, eA, buildCells, dvalX, dval, dBin, dInt, dLoad, cellsAt, retV, DR.val, fzT, fzVs, fzV, fz1, DV.immB, dCallP, viewVs, viewV, view1, noMemV, noMem, dStore, DV.one, fzL, cellsOf, setFrom, DV.isU, Nat.reduceEqDiff, Nat.reduceAdd, ↓reduceIte, reduceCtorEq, Nat.reduceLeDiff, Nat.reduceLT, forall_const, d_move_one, eIl, ePln, k1, w, sl, hl, ecl , hcondQ])))))
  by_cases k2 : p.kind = 2
  · have e2 : oneM p old fuel = ⟨p.init, 0, 0⟩ := by unfold oneM; rw [if_neg k1, if_pos k2]
    have hl : p.init.length ≤ 4294967296 := by omega
    have ecl := s_CloneP_at p.init
    rw [e2]
    (have hcondQ := Bool.and_self; refine Todo.of ?_); (repeat' (first | ((with_reducible refine Todo.to ?_); (repeat (simp only [↓rP, rT, rU, eI, eA, buildCells, dvalX, dval, dBin, dInt, dLoad, cellsAt, retV, DR.val, fzT, fzVs, fzV, fz1, DV.immB, dCallP, viewVs, viewV, view1, noMemV, noMem, dStore, DV.one, fzL, cellsOf, setFrom, DV.isU, Nat.reduceEqDiff, Nat.reduceAdd, ↓reduceIte, reduceCtorEq, Nat.reduceLeDiff, Nat.reduceLT, Int.reduceBEq, forall_const, d_move_one, eIl, ePln, k2, hl, ecl , hcondQ])))))
  · have e2 : oneM p old fuel = runF p old fuel := by unfold oneM; rw [if_neg k1, if_neg k2]
    rw [e2]
    (have hcondQ := Bool.and_self; refine Todo.of ?_); (repeat' (first | ((with_reducible refine Todo.to ?_); (repeat (simp only [↓rP, rT, rU, eI, eA, dvalX, dval, dBin, dInt, dLoad, cellsAt, retV, DR.val, fzT, fzVs, fzV, fz1, DV.immB, dCallP, viewVs, viewV, view1, viewL, noMemV, noMem, dStore, DV.one, fzL, cellsOf, setFrom, Nat.reduceEqDiff, Nat.reduceAdd, ↓reduceIte, reduceCtorEq, Nat.reduceLeDiff, Nat.reduceLT, forall_const, d_move_one, s_mrun_at, eIl, ePln, h , hcondQ]))) | (((((with_reducible refine dwp_condI (t := ?_) ?_ (fun hcQ => ?_) (fun hcQ => ?_)); rotate_left; · (rfl))) <;> (have hn := hcQ; have hcondQ := hcQ) <;> (try simp only [beq_iff_eq, ne_eq, beq_eq_false_iff_ne] at hn) <;> (try (exfalso; omega)) <;> (refine Todo.of ?_))) | fail))
/-- A step that may be alone. -/
def rightA (p : Pln) (c : Int) : Bool := rightQ { p with at_ := 0 } 0 c
def aloneF (p : Pln) (old : List Int) (fuel : Int) : Told := if rightA p old.length = true then oneM p old fuel else ⟨[], 0, 1⟩
/-- What is known of a step. -/
structure okP1 (p : Pln) (old : List Int) (fuel : Int) : Prop where
  o : old.length ≤ 1100
  i : p.init.length ≤ 20
  c : p.code.length ≤ 1500
  f : fuel ≤ 3000
  ci : ∀ x ∈ old, in64 x
  ins : ∀ i ∈ p.code, in64 i.n
theorem okOne_of {p : Pln} {old : List Int} {fuel : Int} {b : Int} (h : okP1 p old fuel) (hr : rightQ p b old.length = true) : okOne p old fuel := by
  obtain ⟨q1, q2, _⟩ := rightQ_len hr
  refine ⟨q1, q2, h.o, fun k => ?_, h.i, h.c, h.f, h.ci, h.ins⟩
  simp only [rightQ, Bool.and_eq_true, decide_eq_true_eq, if_pos k] at hr
  omega
theorem okOne_at {p : Pln} {old : List Int} {fuel : Int} (h : okP1 p old fuel) (hr : rightA p old.length = true) : okOne p old fuel := by
  have := okOne_of (p := { p with at_ := 0 }) (b := 0) (old := old) (fuel := fuel) ⟨h.o, h.i, h.c, h.f, h.ci, h.ins⟩ hr
  exact ⟨this.l0, this.l8, this.o, this.k1, this.i, this.c, this.f, this.ci, this.ins⟩
theorem rightL_one (p : Pln) (c : Int) : rightL [{ p with at_ := 0 }] 0 c = rightA p c := by simp [rightL, rightA]
noncomputable def s_mOne : List DV → Prop × DV := spec3 ePln eIl eI fun p o f => (okP1 p o f, .tup (cTold (aloneF p o f)))
theorem s_mOne_at (p : Pln) (o : List Int) (f : Int) : s_mOne [.agg (cPln p), .sl (il o), .int .i64 f] = (okP1 p o f, .tup (cTold (aloneF p o f))) := spec3_at inj_Pln inj_Il inj_I _ p o f
theorem ok_move_One : OkP Tryz.prog 20 s_mOne := by
  refine OkP.mk3 (ps := [(24, s_plRight), (45, s_mone)]) (hs := []) ⟨ok_plan_Right, ok_move_one, trivial⟩ trivial m_move_One fun p old fuel h => ?_
  try dsimp only at h
  have ho := h.o
  have er := s_plRight_at [{ p with at_ := 0 }] old.length
  simp only [List.map_cons, List.map_nil, rightL_one] at er
  cases hr : rightA p old.length
  · have e2 : aloneF p old fuel = ⟨[], 0, 1⟩ := by unfold aloneF; rw [hr]; rfl
    rw [e2]
    (have hcondQ := Bool.and_self; refine Todo.of ?_); (repeat' (first | ((with_reducible refine Todo.to ?_); (repeat (simp only [↓rP, rT, rU, eI, eA, dvalX, dval, dUn, dLoad, cellsAt, retV, retL, DR.val, fzT, fzVs, fzV, fz1, DV.immB, dCallP, viewVs, viewV, view1, noMemV, noMem, dStore, DV.one, alive, fzLL, fzL, bRow, bU, cellsOf, setFrom, DV.isU, Nat.reduceEqDiff, Nat.reduceAdd, ↓reduceIte, reduceCtorEq, Nat.reduceLeDiff, forall_const, d_move_One, eIl, ePln, il_len, er, hr, il_len, hcondQ]))) | ((with_reducible refine And.intro ?_ ?_); · omega) | fail))
    all_goals rfl
  · have h1 := okOne_at h hr
    have e2 : aloneF p old fuel = oneM p old fuel := by unfold aloneF; rw [hr]; rfl
    rw [e2]
    (have hcondQ := Bool.and_self; refine Todo.of ?_); (repeat' (first | ((with_reducible refine Todo.to ?_); (repeat (simp only [↓rP, rT, rU, eI, eA, dvalX, dval, dUn, dLoad, cellsAt, retV, retL, DR.val, fzT, fzVs, fzV, fz1, DV.immB, dCallP, viewVs, viewV, view1, viewL, noMemV, noMem, dStore, DV.one, alive, fzLL, fzL, bRow, bU, cellsOf, setFrom, DV.isU, Nat.reduceEqDiff, Nat.reduceAdd, ↓reduceIte, reduceCtorEq, Nat.reduceLeDiff, Nat.reduceLT, forall_const, d_move_One, s_mone_at, eIl, ePln, il_len, er, hr, h1, il_len, hcondQ]))) | ((with_reducible refine And.intro ?_ ?_); · omega) | fail)) <;> (try (omega))
    all_goals rfl
end Go.Proofs.YtjgefhgkinocmaaGreat

/- The document's step and plan. -/
set_option linter.all false
set_option maxRecDepth 20000
namespace Go.Proofs.YtjgefhgkinocmaaGreat
open Go.Nk
structure okPs (l : List Pln) (old : List Int) (fuel : Int) : Prop where
  n : l.length ≤ 150
  o : old.length ≤ 1100
  p : ∀ p ∈ l, p.init.length ≤ 20 ∧ p.code.length ≤ 1500 ∧ ∀ i ∈ p.code, in64 i.n
  f : in64 fuel ∧ fuel ≤ 3000
  ci : ∀ x ∈ old, in64 x
theorem okPs.one {l : List Pln} {old : List Int} {fuel f : Int} (h : okPs l old fuel) (hf : f ≤ 3000) {p : Pln} (hp : p ∈ l) : okP1 p old f :=
  ⟨h.o, (h.p p hp).1, (h.p p hp).2.1, hf, h.ci, (h.p p hp).2.2⟩
/-- What steps make, each with the fuel that is left, up to the first error. -/
def toldL : List Pln → List Int → Int → List Told
  | [], _, _ => []
  | p :: r, old, fuel => oneM p old fuel :: (if (oneM p old fuel).e = 0 then toldL r old (fuel - (oneM p old fuel).n) else [])
def foldT : List Told → List Int → Int → List Int × Int × Int
  | [], out, used => (out, used, 0)
  | t :: r, out, used => if t.e = 0 then foldT r (out ++ t.v) (used + t.n) else ([], used + t.n, t.e)
def allF (l : List Pln) (old : List Int) (fuel : Int) : List Int × Int × Int :=
  if rightL l 0 old.length = true then foldT (toldL l old fuel) [] 0 else ([], 0, 1)
/-- Each of steps that may be may be. -/
theorem rightL_cons {p : Pln} {r : List Pln} {b c : Int} (h : rightL (p :: r) b c = true) : rightQ p b c = true ∧ rightL r (b + p.len) c = true := by
  simpa [rightL] using h
theorem rightA_of {p : Pln} {b c : Int} (hb : 0 ≤ b) (h : rightQ p b c = true) : rightA p c = true := by
  obtain ⟨q1, q2, q3⟩ := rightQ_len h
  simp only [rightA, rightQ, Bool.and_eq_true, decide_eq_true_eq, beq_iff_eq] at h ⊢
  exact ⟨⟨⟨⟨trivial, q1⟩, q2⟩, by omega⟩, h.2⟩
def resA (R : List Int × Int × Int) : DV := .tup [.sl (il R.1), .int .i64 R.2.1, .int .i64 R.2.2]
end Go.Proofs.YtjgefhgkinocmaaGreat

/- The program's plan: an iterator with its own fuel. -/
set_option linter.all false
set_option maxRecDepth 20000
namespace Go.Proofs.YtjgefhgkinocmaaGreat
open Go.Nk
theorem at_of_drop {α : Type} {l : List α} {n : Nat} {x : α} {r : List α} (h : l.drop n = x :: r) : l[n]? = some x ∧ l.drop (n + 1) = r ∧ n + 1 ≤ l.length := by
  have hl : n < l.length := by
    rcases Nat.lt_or_ge n l.length with h1 | h1
    · exact h1
    · rw [List.drop_of_length_le h1] at h; cases h
  rw [List.drop_eq_getElem_cons hl] at h
  injection h with h1 h2
  exact ⟨by rw [← h1]; exact List.getElem?_eq_getElem hl, h2, hl⟩
theorem end_of_drop {α : Type} {l : List α} {n : Nat} (h : l.drop n = []) (hn : n ≤ l.length) : n = l.length := by
  have := List.drop_eq_nil_iff.1 h
  omega
abbrev X3 := List Pln × List Int × Int
def encT (t : Told) : List DV := [.agg (cTold t)]
@[reducible] def aEach (x : X3) : List DV := [.ref [.sl (x.1.map cPln)], .ref [.sl (il x.2.1)], .agg [.int .i64 x.2.2]]
theorem inj_each : InjL aEach := fun x y h => by
  obtain ⟨a, b, c⟩ := x; obtain ⟨a', b', c'⟩ := y
  simp only [aEach, List.cons.injEq, DV.ref.injEq, DV.sl.injEq, DV.agg.injEq, DV.int.injEq, true_and, and_true] at h
  obtain ⟨h1, h2, rfl⟩ := h
  rw [map_inj cPln_inj _ _ h1, il_inj h2]
def okEach (x : X3) : Prop := okPs x.1 x.2.1 x.2.2 ∧ rightL x.1 0 x.2.1.length = true
noncomputable def s_each1 : List DV → Prop × List (List DV) := specI aEach fun x => (okEach x, (toldL x.1 x.2.1 x.2.2).map encT)
theorem s_each1_at (l : List Pln) (old : List Int) (fuel : Int) : s_each1 [.ref [.sl (l.map cPln)], .ref [.sl (il old)], .agg [.int .i64 fuel]] = (okEach (l, old, fuel), (toldL l old fuel).map encT) := specI_at inj_each _ (l, old, fuel)
theorem okI_each1 : OkI Tryz.prog 54 s_each1 := by
  refine OkI.mkB (ps := [(45, s_mone)]) (hs := []) (is := []) ⟨ok_move_one, trivial⟩ trivial trivial m_move_each_1 rfl (fun _ => rfl) fun x l h => ?_
  obtain ⟨li, old, fuel⟩ := x
  obtain ⟨h, hr⟩ := h
  simp only at h hr
  have hn := h.n; have ho := h.o
  dsimp only
  simp only [openC]
  generalize hxs : (toldL li old fuel).map encT = xs
  
  (have hcondQ := Bool.and_self; refine Todo.of ?_); (repeat' (first | ((with_reducible refine Todo.to ?_); (repeat (simp only [rT, rU, dvalX, dval, frameFrom, dLoad, cellsAt, Nat.reduceAdd, ↓reduceIte, rI, noYld, d_move_each_1, hcondQ])))))
  refine dwpI_each li (fun k (u : Int) => (⟨[(0, .yld l), (2, .ref [.sl (il old)]), (3, .ptr 0 1 0 0), (8, .sl (li.map cPln)), (9, .int .i64 li.length), (10, .int .i64 k)], [⟨.loc, 1, [[.int .i64 (fuel - u)]]⟩]⟩, some k))
    (fun k r u => xs.drop k = (toldL r old (fuel - u)).map encT ∧ k ≤ xs.length ∧ 0 ≤ u ∧ u ≤ fuel.toNat ∧ ∃ b, 0 ≤ b ∧ rightL r b old.length = true) 0 (by simp only [cut_some, List.map_cons, List.map_nil, get_cons, Nk.get_nil, Nat.reduceEqDiff, ↓reduceIte, Nat.succ_ne_self, DV.cut, DV.inB, DObj.cut, List.take_nil, reduceCtorEq, Nat.zero_lt_one, decide_true, List.take_succ_cons, Int.sub_zero] <;> rfl) ⟨by rw [← hxs, Int.sub_zero]; rfl, Nat.zero_le _, Int.le_refl _, by omega, 0, Int.le_refl _, hr⟩ (fun k x r u d hx hd hi => ?_) (fun k u e hi => ?_)
  · obtain ⟨hi, hk, u0, u1, b, b0, hb⟩ := hi
    obtain ⟨f1, f2⟩ := h.f
    obtain ⟨f3, f4⟩ := f1
    have hq := rightL_cons hb
    have hx' : x ∈ li := List.mem_of_getElem? hx
    have hp1 := h.one (f := fuel - u) (by omega) hx'
    have ho1 := okOne_at hp1 (rightA_of b0 hq.1)
    have on := one_n ho1
    have e1 := s_mone_at x old (fuel - u)
    rw [eq_true ho1] at e1
    simp only [toldL, List.map_cons] at hi
    obtain ⟨a1, a2, a3⟩ := at_of_drop hi
    generalize oneM x old (fuel - u) = t at *
    have w2 : IntKind.i64.wrap (fuel - u - t.n) = fuel - (u + t.n) := by rw [wrap_i64_id (by omega)]; omega
    have q1 := rightQ_len hq.1
    simp only [encT] at a1
    by_cases c : t.e = 0
    · rw [if_pos c, show fuel - u - t.n = fuel - (u + t.n) by omega] at a2
      (have hcondQ := Bool.and_self; refine Todo.of ?_); (repeat' (first | ((with_reducible refine Todo.to ?_); (repeat (first | (simp only [rT, rU, dvalX, dval, dBin, dInt, dUn, dLoad, cellsAt, fzVs, fzV, fz1, DV.immB, dCallP, viewVs, viewV, view1, viewL, noMemV, noMem, dStore, DV.one, alive, fzL, cellsOf, setFrom, Nat.reduceEqDiff, Nat.reduceAdd, ↓reduceIte, reduceCtorEq, Nat.reduceLeDiff, Nat.reduceLT, forall_const, rI, noYld, immV, ofI_p, d, map_getD cPln hx, e1, w2, c, a1 , hcondQ]) | ((simp (disch := omega) only [i64_id]))))) | ((with_reducible refine And.intro ?_ ?_); · first | (omega) | ((simp; omega))) | fail))
      exact ⟨u + t.n, by simp only [cut_some, List.map_cons, List.map_nil, get_cons, Nk.get_nil, Nat.reduceEqDiff, ↓reduceIte, Nat.succ_ne_self, DV.cut, DV.inB, DObj.cut, List.take_zero, reduceCtorEq, Nat.zero_lt_one, decide_true, List.take_succ_cons, Int.natCast_add, Int.natCast_one] <;> rfl, a2, a3, by omega, by omega, b + x.len, by omega, hq.2⟩
    · rw [if_neg c] at a2
      have e2 := end_of_drop a2 a3
      (have hcondQ := Bool.and_self; refine Todo.of ?_); (repeat' (first | ((with_reducible refine Todo.to ?_); (repeat (simp only [rT, rU, dvalX, dval, dBin, dInt, dUn, dLoad, cellsAt, fzVs, fzV, fz1, DV.immB, dCallP, viewVs, viewV, view1, viewL, noMemV, noMem, dStore, DV.one, alive, fzL, cellsOf, setFrom, Nat.reduceEqDiff, Nat.reduceAdd, ↓reduceIte, reduceCtorEq, Nat.reduceLeDiff, Nat.reduceLT, forall_const, rI, noYld, immV, ofI_p, d, map_getD cPln hx, e1, w2, a1 , hcondQ]))) | ((with_reducible refine And.intro ?_ ?_); · omega) | (((((with_reducible refine dwpI_condI (t := ?_) ?_ (fun hcQ => ?_) (fun hcQ => ?_)); rotate_left; · (rfl))) <;> (have hn := hcQ; have hcondQ := hcQ) <;> (try simp only [bne_iff_ne, ne_eq, bne_eq_false_iff_eq] at hn) <;> (try (exfalso; omega)) <;> (refine Todo.of ?_))) | fail))
      rw [e2]
  · obtain ⟨hi, hk, _⟩ := hi
    have e2 := end_of_drop hi hk
    (have hcondQ := Bool.and_self; refine Todo.of ?_); (repeat' (first | ((with_reducible refine Todo.to ?_); (repeat (simp only [rT, rU, dvalX, dval, dBin, dInt, Nat.reduceEqDiff, ↓reduceIte, reduceCtorEq, rI, noYld, e, hcondQ])))))
    rw [← e, e2]

noncomputable def s_each : List DV → List DObj → Res := specG (fun (x : X3 × Nat) a hp => a = [.sl (x.1.1.map cPln), .sl (il x.1.2.1), .int .i64 x.1.2.2] ∧ x.2 = hp.length)
  (fun x => (True, .clo 54 [.ref [.sl (x.1.1.map cPln)], .ref [.sl (il x.1.2.1)], .ptr x.2 1 0 0])) fun x hp => hp ++ [⟨.loc, 1, [[.int .i64 x.1.2.2]]⟩]
theorem s_each_run (l : List Pln) (old : List Int) (fuel : Int) (hp : List DObj) : s_each [.sl (l.map cPln), .sl (il old), .int .i64 fuel] hp = ⟨True, .clo 54 [.ref [.sl (l.map cPln)], .ref [.sl (il old)], .ptr hp.length 1 0 0], hp ++ [⟨.loc, 1, [[.int .i64 fuel]]⟩]⟩ := by
  refine specG_at (x := ((l, old, fuel), hp.length)) ?_ ⟨rfl, rfl⟩
  rintro ⟨⟨a, b, c⟩, m⟩ ⟨⟨a', b', c'⟩, m'⟩ w hp ⟨rfl, rfl⟩ ⟨h, rfl⟩
  simp only [List.cons.injEq, DV.sl.injEq, DV.int.injEq, true_and, and_true] at h
  obtain ⟨h1, h2, rfl⟩ := h
  rw [map_inj cPln_inj _ _ h1, il_inj h2]
theorem ok_move_each : OkH Tryz.prog 25 s_each := by
  refine OkH.mkGH (ps := []) (hs := []) trivial trivial m_move_each (by rintro x a hp ⟨rfl, _⟩; rfl) ?_
  rintro ⟨⟨l, old, fuel⟩, m⟩ a hp ⟨rfl, rfl⟩ _
  
  (have hcondQ := Bool.and_self; refine Todo.of ?_); (repeat' (first | ((with_reducible refine Todo.to ?_); (repeat (simp only [↓rP, rT, rU, dvalX, dval, frameFrom, retV, DR.val, DV.immB, DV.one, cellsOf, Nat.reduceEqDiff, Nat.reduceAdd, ↓reduceIte, reduceCtorEq, forall_const, d_move_each, hcondQ])))))
theorem told_mem {l : List Pln} {old : List Int} {fuel : Int} (h : okPs l old fuel) : ∀ (r : List Pln) (u b : Int), (∀ p ∈ r, p ∈ l) → 0 ≤ u → u ≤ fuel.toNat → 0 ≤ b → rightL r b old.length = true → ∀ t ∈ toldL r old (fuel - u), t.v.length ≤ 20 ∧ 0 ≤ t.n ∧ t.n ≤ 3000
  | [], u, b, _, _, _, _, _, t, ht => by simp [toldL] at ht
  | p :: r, u, b, hs, u0, u1, b0, hr, t, ht => by
    obtain ⟨f1, f2⟩ := h.f
    have hq := rightL_cons hr
    have hp1 := h.one (f := fuel - u) (by omega) (hs p (by simp))
    have ho1 := okOne_at hp1 (rightA_of b0 hq.1)
    have on := one_n ho1
    have ov := one_v ho1
    have q1 := rightQ_len hq.1
    simp only [toldL] at ht
    rcases List.mem_cons.1 ht with rfl | ht
    · exact ⟨ov, on.1, by omega⟩
    · split at ht
      · rw [show fuel - u - (oneM p old (fuel - u)).n = fuel - (u + (oneM p old (fuel - u)).n) by omega] at ht
        exact told_mem h r _ (b + p.len) (fun q hq => hs q (by simp [hq])) (by omega) (by omega) (by omega) hq.2 t ht
      · simp at ht
theorem toldL_len (old : List Int) : ∀ (r : List Pln) (f : Int), (toldL r old f).length ≤ r.length
  | [], f => Nat.le_refl _
  | p :: r, f => by
    simp only [toldL, List.length_cons]
    split
    · have := toldL_len old r (f - (oneM p old f).n); omega
    · simp
noncomputable def s_mAll : List DV → Prop × DV := spec3 ePlns eIl eI fun l o f => (okPs l o f, resA (allF l o f))
theorem s_mAll_at (l : List Pln) (o : List Int) (f : Int) : s_mAll [.sl (l.map cPln), .sl (il o), .int .i64 f] = (okPs l o f, resA (allF l o f)) := spec3_at inj_Plns inj_Il inj_I _ l o f
theorem ok_move_All : OkP Tryz.prog 10 s_mAll := by
  refine OkP.mk3I (ps := [(24, s_plRight)]) (hs := [(25, s_each)]) (is := [(54, s_each1)]) ⟨ok_plan_Right, trivial⟩ ⟨ok_move_each, trivial⟩ ⟨okI_each1, trivial⟩ m_move_All fun l old fuel h => ?_
  have ho := h.o; have hn := h.n
  
  cases hr : rightL l 0 old.length
  · have e2 : allF l old fuel = ([], 0, 1) := by unfold allF; rw [hr]; rfl
    rw [e2]
    (have hcondQ := Bool.and_self; refine Todo.of ?_); (repeat' (first | ((with_reducible refine Todo.to ?_); (repeat (simp only [↓rP, rT, rU, eI, eL, dvalX, dval, frameFrom, dUn, dLoad, cellsAt, retV, retL, DR.val, fzT, fzVs, fzV, fz1, DV.immB, dCallP, viewVs, viewV, view1, noMemV, noMem, dStore, DV.one, cellsOf, setFrom, Nat.reduceEqDiff, Nat.reduceAdd, ↓reduceIte, reduceCtorEq, Nat.reduceLeDiff, forall_const, d_move_All, s_plRight_at, eIl, ePlns, il_len, ofI_p, hr, resA, il_len ]))) | ((with_reducible refine And.intro ?_ ?_); · omega) | fail))
    all_goals rfl
  have e2 : allF l old fuel = foldT (toldL l old fuel) [] 0 := by unfold allF; rw [hr]; rfl
  rw [e2]
  have ee := fun hp => s_each_run l old fuel hp
  have q1 : (Orc.ofI [(24, s_plRight)] [(25, s_each)] [(54, s_each1)]).i 54 [.ref [.sl (l.map cPln)], .ref [.sl (il old)], .agg [.int .i64 fuel]] = (True, (toldL l old fuel).map encT) := by
    rw [ofI_i, iOf_cons, if_pos rfl, s_each1_at]
    rw [eq_true (show okEach (l, old, fuel) from ⟨h, hr⟩)]
  have nT : ∀ t ∈ toldL l old fuel, t.v.length ≤ 20 ∧ 0 ≤ t.n ∧ t.n ≤ 3000 := by
    have := told_mem h l 0 0 (fun _ h => h) (Int.le_refl _) (by omega) (Int.le_refl _) hr
    rwa [Int.sub_zero] at this
  have nL := toldL_len old l fuel
  (have hcondQ := Bool.and_self; refine Todo.of ?_); (repeat' (first | ((with_reducible refine Todo.to ?_); (repeat (simp only [↓rP, rT, rU, eI, eL, dvalX, dval, frameFrom, dUn, DV.immB, dCallP, viewVs, viewV, view1, noMemV, noMem, dStore, DV.one, cellsOf, setFrom, Nat.reduceEqDiff, Nat.reduceAdd, ↓reduceIte, reduceCtorEq, Nat.reduceLeDiff, forall_const, d_move_All, s_plRight_at, eIl, ePlns, il_len, ofI_p, ofI_h, hr, il_len, ee, ↓dwp_gown ]))) | ((with_reducible refine And.intro ?_ ?_); · omega) | fail))
  left
  refine dwp_rangeB (toldL l old fuel) encT (fun _ (a : List Int × Int) => [⟨.loc, 1, [[.nil]]⟩, ⟨.loc, 1, [[.int .i64 0]]⟩, ⟨.loc, 1, [[.int .i64 0]]⟩, ⟨.loc, 1, [[.own 5 a.1.length 0 a.1.length]]⟩, ⟨.loc, 1, [[.int .i64 a.2]]⟩, ⟨.imm, 1, il a.1⟩, ⟨.dead, 1, [[.int .i64 fuel]]⟩])
    (fun k r a => foldT (toldL l old fuel) [] 0 = foldT r a.1 a.2 ∧ a.1.length ≤ 20 * k ∧ 0 ≤ a.2 ∧ a.2 ≤ 3000 * k) ([], 0) [(6, .ptr 0 1 0 0), (7, .ptr 1 1 0 0), (8, .ptr 2 1 0 0), (9, .ptr 3 1 0 0), (10, .ptr 4 1 0 0)]
    (Nat.zero_le _) rfl (by simp only [cut_some, List.map_cons, List.map_nil, get_cons, Nk.get_nil, Nat.reduceEqDiff, ↓reduceIte, DV.cut, DV.inB, DObj.cut, List.take_nil, reduceCtorEq, decide_true, Nat.reduceLT, List.take_succ_cons]) ?_ ?_ q1 rfl ?_ ⟨rfl, Nat.le_refl _, Int.le_refl _, by simp⟩ (fun k x r a hx hd hi => ?_) (fun k a e hi => ?_)
  · simp only [cut_some, List.map_cons, List.map_nil, get_cons, Nk.get_nil, Nat.reduceEqDiff, ↓reduceIte, DV.cut, DV.inB, DObj.cut, List.take_nil, reduceCtorEq, decide_true, Nat.reduceLT, List.take_succ_cons]
    simp [capsOf, DV.immB]
  · simp only [cut_some, List.map_cons, List.map_nil, get_cons, Nk.get_nil, Nat.reduceEqDiff, ↓reduceIte, DV.cut, DV.inB, DObj.cut, List.take_nil, reduceCtorEq, decide_true, Nat.reduceLT, List.take_succ_cons]
    simp [capsOf]
  · simp only [cut_some, List.map_cons, List.map_nil, get_cons, Nk.get_nil, Nat.reduceEqDiff, ↓reduceIte, DV.cut, DV.inB, DObj.cut, List.take_nil, reduceCtorEq, decide_true, Nat.reduceLT, List.take_succ_cons]
    simp [capsOf, il]
  · obtain ⟨out, used⟩ := a
    obtain ⟨hi, hl, u0, u1⟩ := hi
    simp only at hi hl u0 u1
    have hk : k < (toldL l old fuel).length := (List.getElem?_eq_some_iff.1 hx).1
    obtain ⟨n1, n2, n3⟩ := nT x (List.mem_of_getElem? hx)
    have w2 : IntKind.i64.wrap (used + x.n) = used + x.n := wrap_i64_id (by omega)
    simp only [foldT] at hi
    refine ⟨rfl, ?_⟩
    by_cases c : x.e = 0
    · rw [if_pos c] at hi
      have lb : out.length + x.v.length ≤ 4294967296 := by omega
      (have hcondQ := Bool.and_self; refine Todo.of ?_); (repeat' (first | ((with_reducible refine Todo.to ?_); (repeat (simp only [↓rP, rT, rU, dvalX, dval, dBin, dInt, dStr, dLoad, cellsAt, elemsOf, dAppend, dStore, DV.one, alive, cellsOf, setFrom, lenMax, Nat.reduceEqDiff, Nat.reduceAdd, ↓reduceIte, reduceCtorEq, Nat.reduceLeDiff, Nat.reduceLT, forall_const, il_len, il_rowsT, only_normal, encT, List.zip_cons_cons, List.zip_nil_right, w2, c, lb, il_appendR ])))))
      refine ⟨(out ++ x.v, used + x.n), ?_, hi, by simp; omega, by simp only; omega, by simp only; omega⟩
      simp only [cut_some, List.map_cons, List.map_nil, get_cons, Nk.get_nil, ↓reduceIte, DV.cut, DV.inB, DObj.cut, List.take_zero, reduceCtorEq, decide_true, Nat.reduceLT, List.take_succ_cons, List.length_append, Nat.reduceLT]
    · rw [if_neg c] at hi
      rw [hi]
      have c1 : (x.e != 0) = true := by simp [c]
      (have hcondQ := Bool.and_self; refine Todo.of ?_); (repeat' (first | ((with_reducible refine Todo.to ?_); (repeat (simp only [↓rP, rT, rU, sepsD, sepB, hdl, dvalX, dval, dBin, dInt, dStr, dLoad, cellsAt, retV, retL, DR.val, fzT, fzVs, fzV, fz1, DV.immB, dStore, DV.one, alive, cellsOf, setFrom, Nat.reduceEqDiff, Nat.reduceAdd, ↓reduceIte, reduceCtorEq, Nat.reduceLeDiff, Nat.reduceLT, forall_const, only_normal, encT, List.zip_cons_cons, List.zip_nil_right, w2, c1, resA ])))))
      all_goals rfl
  · obtain ⟨out, used⟩ := a
    obtain ⟨hi, _⟩ := hi
    simp only [foldT] at hi
    rw [hi]
    have tk : (il out).take out.length = il out := List.take_of_length_le (by rw [il_len]; exact Nat.le_refl _)
    (have hcondQ := Bool.and_self; refine Todo.of ?_); (repeat' (first | ((with_reducible refine Todo.to ?_); (repeat (simp only [↓rP, rT, rU, sepsD, sepB, hdl, dvalX, dval, dLoad, cellsAt, retV, retL, DR.val, fzT, fzVs, fzV, fz1, DV.immB, elemsOf, dStore, DV.one, freezeAt, cellsOf, setFrom, Nat.reduceEqDiff, ↓reduceIte, reduceCtorEq, Nat.reduceLeDiff, forall_const, il_len, resA, tk ]))))) <;> (try (exact Nat.le_refl _))
end Go.Proofs.YtjgefhgkinocmaaGreat

