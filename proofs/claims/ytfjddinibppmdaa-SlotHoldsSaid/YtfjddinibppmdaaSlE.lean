/- A version is made; a store's staged version is let hold. -/
import Derived.Test.YtfjddinibppmdaaSlD
set_option linter.all false
set_option maxRecDepth 20000
namespace Go.Proofs.Ytfjddinibppmdaa
open Go.Nk

def cJA (x : Img) (l : List Int) (h : Nat) : List DV := [.bool true, .sl (x.en.map cEn), .sl (x.ins.map cPrt), .sl (x.outs.map cPrt), .sl (x.slots.map cSlt), .sl (ils x.loc), .sl (x.code.map cIn4), .own h l.length 0 l.length]
def oJA (x : Img) (l : List Int) (h : Nat) : DObj := ⟨.loc, 8, [cJA x l h]⟩
def rOf (y : Img × DV × List Int × Nat) (a : List DV) (hp : List DObj) : Prop := a = [.agg (cImg y.1), y.2.1] ∧ okCl y.2.1 y.2.2.1 hp ∧ hp.length = y.2.2.2
theorem rOf_u : ∀ x y a hp, rOf x a hp → rOf y a hp → x = y := by
  rintro ⟨x, d, l, n⟩ ⟨x', d', l', n'⟩ a hp ⟨rfl, h, k⟩ ⟨e, h', k'⟩
  simp only [List.cons.injEq, DV.agg.injEq, DV.sl.injEq, and_true] at e
  simp only at k k'
  obtain ⟨⟨a1, a2, a3, a4, a5, a6⟩, e⟩ := e
  subst e
  have := okCl_u h h'
  simp only at this
  rw [img_eq a1 a2 a3 a4 a5 a6, this, ← k, ← k']
noncomputable def s_ofV : List DV → List DObj → Res := specG rOf (fun y => (y.2.2.1.length ≤ 1200, .agg (cJA y.1 y.2.2.1 (y.2.2.2 + 1)))) (fun y hp => hp ++ [oJA y.1 y.2.2.1 (y.2.2.2 + 1), oSt y.2.2.1])
theorem s_ofV_at {x : Img} {d : DV} {l : List Int} {hp : List DObj} (h : okCl d l hp) (hl : l.length ≤ 1200) : s_ofV [.agg (cImg x), d] hp = ⟨True, .agg (cJA x l (hp.length + 1)), hp ++ [oJA x l (hp.length + 1), oSt l]⟩ := by
  have := specG_at (f := fun y : Img × DV × List Int × Nat => (y.2.2.1.length ≤ 1200, DV.agg (cJA y.1 y.2.2.1 (y.2.2.2 + 1)))) (out := fun y hp => hp ++ [oJA y.1 y.2.2.1 (y.2.2.2 + 1), oSt y.2.2.1]) rOf_u (x := (x, d, l, hp.length)) (a := [.agg (cImg x), d]) (hp := hp) ⟨rfl, h, rfl⟩
  unfold s_ofV
  rw [this]
  simp only [hl]
theorem get2a {hp : List DObj} {a b : DObj} : (hp ++ [a, b])[hp.length]? = some a := by simp
theorem get2b {hp : List DObj} {a b : DObj} : (hp ++ [a, b])[hp.length + 1]? = some b := by simp
theorem set2a {hp : List DObj} {a b c : DObj} : (hp ++ [a, b]).set hp.length c = hp ++ [c, b] := by rw [List.set_append_right _ _ (Nat.le_refl _)]; simp
theorem get3b {hp : List DObj} {a b c : DObj} : (hp ++ [a, b, c])[hp.length + 1]? = some b := by simp
theorem get3c {hp : List DObj} {a b c : DObj} : (hp ++ [a, b, c])[hp.length + 2]? = some c := by simp
theorem set3c {hp : List DObj} {a b c d : DObj} : (hp ++ [a, b, c]).set (hp.length + 2) d = hp ++ [a, b, d] := by rw [List.set_append_right _ _ (by omega)]; simp
theorem okCl_app {d : DV} {l : List Int} {hp t : List DObj} (h : okCl d l hp) : okCl d l (hp ++ t) := by
  rcases h with h | h | ⟨k, h, hk⟩
  · exact .inl h
  · exact .inr (.inl h)
  · exact .inr (.inr ⟨k, h, get_app hk⟩)
theorem ok_slot_of : OkH Try.prog 24 s_ofV := by
  refine OkH.mkGH (ps := []) (hs := [(28, s_CloneO)]) trivial ⟨ok_CloneO, trivial⟩ m_slot_of (fun x a hp h => by rw [h.1]; rfl) (fun y a hp h h1 => ?_)
  obtain ⟨x, d, l, n⟩ := y
  obtain ⟨rfl, h, hn⟩ := h
  simp only at h hn h1 ⊢
  subst hn
  have e1 := s_CloneO_at (okCl_app (t := [⟨.loc, 8, [[.bool false, .nil, .nil, .nil, .nil, .nil, .nil, .nil]]⟩]) h) h1
  simp only [List.length_append, List.length_cons, List.length_nil, Nat.zero_add, List.append_assoc, List.cons_append, List.nil_append] at e1
  
  (have hcondQ := Bool.and_self; refine Todo.of ?_); (repeat' (first | ((with_reducible refine Todo.to ?_); (repeat (first | (simp only [↓rP, rT, rU, eI, eU, eB, eS, eBs, eL, eA, buildCells, sepsD, sepB, hdl, dvalX, DOp.kind, dval, frameFrom, dBin, dInt, dStr, dBeq, dUn, dLoad, cellsAt, retV, retL, DR.val, fzT, fzVs, fzV, fz1, DV.immB, IntKind.bits, dCallP, viewVs, viewV, view1, capVL, capV, viewL, noMemV, noMem, elemsOf, dAppend, dAppz, dStore, DV.one, alive, freezeAt, fzLL, fzL, bRow, bU, cellsOf, setFrom, DV.isU, lenMax, lenCap, Nat.reduceEqDiff, Nat.reduceAdd, ↓reduceIte, reduceCtorEq, Nat.reduceSub, Int.reduceToNat, Int.reducePow, Nat.reducePow, Int.reduceLE, Int.reduceLT, Nat.reduceLeDiff, Nat.reduceLT, Int.reduceBEq, Int.reduceBNe, Int.reduceEq, Int.reduceNe, Int.reduceAdd, Int.reduceSub, Int.reduceMul, Int.reduceNeg, Int.reduceTDiv, Int.reduceTMod, Int.reduceMod, Int.reduceDiv, Nat.reduceMul, forall_const, implies_true, d_slot_of, eEns, eIls, eImg, ePrt, ePrts, eRows, eSs, eTy, eVn, eY, sls_len, ils_len, ils_rowsT, sls_rowsT, sls_tk0, ils_tk0, e1, get2a, set2a, endH_normal, endH_ret, List.append_assoc , hcondQ]) | (simp (disch := omega) only [i64_id, u64_id, u8_id, getD_map'])))) | ((with_reducible refine And.intro ?_ ?_); · first | trivial | omega | (simp; done) | (simp; omega)) | ((first | ((with_reducible refine dwp_condI (t := ?_) ?_ (fun hcQ => ?_) (fun hcQ => ?_)); rotate_left; · rfl) | ((with_reducible refine dops_guardI (t := ?_) ?_ (fun hcQ => ?_) (fun hcQ => ?_)); rotate_left; · rfl)) <;> (have hn := hcQ; have hcondQ := hcQ) <;> (try simp only [decide_eq_true_eq, decide_eq_false_iff_not, beq_iff_eq, bne_iff_ne, ne_eq, Bool.and_eq_true, Bool.or_eq_true, Bool.not_eq_true, Bool.not_eq_false, beq_eq_false_iff_ne, bne_eq_false_iff_eq, Bool.not_eq_true', Bool.not_eq_false', Int.ofNat_lt, Int.ofNat_le, Bool.or_eq_false_iff, Bool.and_eq_false_imp, Decidable.not_not, gt_iff_lt, ge_iff_le] at hn) <;> (try (exfalso; omega)) <;> (refine Todo.of ?_)) | (((with_reducible refine dwp_condA ?_ ?_ ?_); · rfl) <;> (refine Todo.of ?_)))) <;> (try (first | (with_reducible rfl) | exact Nat.le_refl _ | exact Int.le_refl _ | assumption | omega))
  all_goals first | rfl | exact ⟨rfl, rfl⟩ | skip

theorem Kept.set {hp : List DObj} {n h : Nat} {v : Vn} {o : DObj} (k : Kept hp n v h) : Kept (one hp n o) n v h :=
  ⟨fun e => ⟨by unfold one; rw [List.getElem?_set_ne (Ne.symm (k.1 e).2)]; exact (k.1 e).1, (k.1 e).2⟩, k.2⟩
theorem Rep.set {hp : List DObj} {n : Nat} {m m' : Bool} {q q' : Qs} (h : Rep hp n m' q) (k0 : Kept hp n q'.v0 q'.h0) (k1 : Kept hp n q'.v1 q'.h1) (ne : q'.v0.there = true → q'.v1.there = true → q'.h0 ≠ q'.h1) : Rep (one hp n (oQ m q')) n m q' :=
  ⟨by unfold one; rw [List.getElem?_set_self h.lt], k0.set, k1.set, ne⟩
theorem one_one {hp : List DObj} {n : Nat} {a b : DObj} : one (one hp n a) n b = one hp n b := by simp [one]
def flipQ (q : Qs) : Qs := { q with b := !q.b }
def incQ (q : Qs) : Qs := { q with c := IntKind.i64.wrap (q.c + 1) }
def rSt (x : Nat × Bool × Qs) (a : List DV) (hp : List DObj) : Prop := a = [.ptr x.1 1 0 17, .int .i64 (if x.2.2.b then 0 else 1)] ∧ Rep hp x.1 x.2.1 x.2.2
theorem rSt_u : ∀ x y a hp, rSt x a hp → rSt y a hp → x = y := by
  rintro ⟨n, m, q⟩ ⟨n', m', q'⟩ a hp ⟨rfl, h⟩ ⟨e, h'⟩
  simp only [List.cons.injEq, DV.ptr.injEq, and_true] at e
  obtain ⟨rfl, _⟩ := e
  obtain ⟨rfl, rfl⟩ := Rep.u h h'
  rfl
noncomputable def s_aStore : List DV → List DObj → Res := specG rSt (fun _ => (True, .tup [])) (fun x hp => one hp x.1 (oQ x.2.1 (flipQ x.2.2)))
theorem s_aStore_at {hp : List DObj} {n : Nat} {m : Bool} {q : Qs} (h : Rep hp n m q) : s_aStore [.ptr n 1 0 17, .int .i64 (if q.b then 0 else 1)] hp = ⟨True, .tup [], one hp n (oQ m (flipQ q))⟩ := specG_at (x := (n, m, q)) rSt_u ⟨rfl, h⟩
theorem ok_aStore : OkH Try.prog 30 s_aStore := by
  refine OkH.mkG (ps := []) (hs := []) trivial trivial m_sync_atomic_Int64_Store (fun x a hp h => by rw [h.1]; rfl) (fun x a hp h _ => ?_)
  obtain ⟨n, m, q⟩ := x
  obtain ⟨rfl, hh⟩ := h
  have hh : Rep hp n m q := hh
  have o := hh.o
  simp only [oQ] at o
  have hcut : (oQ m (flipQ q)).cut hp.length = oQ m (flipQ q) := oQ_cut (fun t => hh.k0.lt t) (fun t => hh.k1.lt t)
  
  simp only
  (have hcondQ := Bool.and_self; refine Todo.of ?_); (repeat' (first | ((with_reducible refine Todo.to ?_); (repeat (first | (simp only [↓rP, rT, rU, eI, eU, eB, eS, eBs, eL, eA, buildCells, sepsD, sepB, hdl, dvalX, DOp.kind, dval, frameFrom, dBin, dInt, dStr, dBeq, dUn, dLoad, cellsAt, retV, retL, DR.val, fzT, fzVs, fzV, fz1, DV.immB, IntKind.bits, dCallP, viewVs, viewV, view1, capVL, capV, viewL, noMemV, noMem, elemsOf, dAppend, dAppz, dStore, DV.one, alive, freezeAt, fzLL, fzL, bRow, bU, cellsOf, setFrom, DV.isU, lenMax, lenCap, Nat.reduceEqDiff, Nat.reduceAdd, ↓reduceIte, reduceCtorEq, Nat.reduceSub, Int.reduceToNat, Int.reducePow, Nat.reducePow, Int.reduceLE, Int.reduceLT, Nat.reduceLeDiff, Nat.reduceLT, Int.reduceBEq, Int.reduceBNe, Int.reduceEq, Int.reduceNe, Int.reduceAdd, Int.reduceSub, Int.reduceMul, Int.reduceNeg, Int.reduceTDiv, Int.reduceTMod, Int.reduceMod, Int.reduceDiv, Nat.reduceMul, forall_const, implies_true, d_sync_atomic_Int64_Store, eEns, eIls, eImg, ePrt, ePrts, eRows, eSs, eTy, eVn, eY, sls_len, ils_len, ils_rowsT, sls_rowsT, sls_tk0, ils_tk0, o, dPut, one_len, List.drop_succ_cons, endC_normal, endC_ret , hcondQ]) | (simp (disch := omega) only [i64_id, u64_id, u8_id, getD_map'])))) | ((with_reducible refine And.intro ?_ ?_); · first | trivial | omega | (simp; done) | (simp; omega)) | ((first | ((with_reducible refine dwp_condI (t := ?_) ?_ (fun hcQ => ?_) (fun hcQ => ?_)); rotate_left; · rfl) | ((with_reducible refine dops_guardI (t := ?_) ?_ (fun hcQ => ?_) (fun hcQ => ?_)); rotate_left; · rfl)) <;> (have hn := hcQ; have hcondQ := hcQ) <;> (try simp only [decide_eq_true_eq, decide_eq_false_iff_not, beq_iff_eq, bne_iff_ne, ne_eq, Bool.and_eq_true, Bool.or_eq_true, Bool.not_eq_true, Bool.not_eq_false, beq_eq_false_iff_ne, bne_eq_false_iff_eq, Bool.not_eq_true', Bool.not_eq_false', Int.ofNat_lt, Int.ofNat_le, Bool.or_eq_false_iff, Bool.and_eq_false_imp, Decidable.not_not, gt_iff_lt, ge_iff_le] at hn) <;> (try (exfalso; omega)) <;> (refine Todo.of ?_)) | (((with_reducible refine dwp_condA ?_ ?_ ?_); · rfl) <;> (refine Todo.of ?_)))) <;> (try (first | (with_reducible rfl) | exact Nat.le_refl _ | exact Int.le_refl _ | assumption | omega))
  refine ⟨⟨[], ?_⟩, one_end hcut⟩
  rw [List.append_nil]
  cases b : q.b <;> simp [one, flipQ, b, oQ, cQ]
def rAd (x : Nat × Bool × Qs) (a : List DV) (hp : List DObj) : Prop := a = [.ptr x.1 1 0 18, .int .i64 1] ∧ Rep hp x.1 x.2.1 x.2.2
theorem rAd_u : ∀ x y a hp, rAd x a hp → rAd y a hp → x = y := by
  rintro ⟨n, m, q⟩ ⟨n', m', q'⟩ a hp ⟨rfl, h⟩ ⟨e, h'⟩
  simp only [List.cons.injEq, DV.ptr.injEq, and_true] at e
  subst e
  obtain ⟨rfl, rfl⟩ := Rep.u h h'
  rfl
noncomputable def s_aAdd : List DV → List DObj → Res := specG rAd (fun x => (True, .int .i64 (IntKind.i64.wrap (x.2.2.c + 1)))) (fun x hp => one hp x.1 (oQ x.2.1 (incQ x.2.2)))
theorem s_aAdd_at {hp : List DObj} {n : Nat} {m : Bool} {q : Qs} (h : Rep hp n m q) : s_aAdd [.ptr n 1 0 18, .int .i64 1] hp = ⟨True, .int .i64 (IntKind.i64.wrap (q.c + 1)), one hp n (oQ m (incQ q))⟩ := specG_at (x := (n, m, q)) rAd_u ⟨rfl, h⟩
theorem ok_aAdd : OkH Try.prog 32 s_aAdd := by
  refine OkH.mkG (ps := []) (hs := []) trivial trivial m_sync_atomic_Int64_Add (fun x a hp h => by rw [h.1]; rfl) (fun x a hp h _ => ?_)
  obtain ⟨n, m, q⟩ := x
  obtain ⟨rfl, hh⟩ := h
  have hh : Rep hp n m q := hh
  have o := hh.o
  simp only [oQ] at o
  have hcut : (oQ m (incQ q)).cut hp.length = oQ m (incQ q) := oQ_cut (fun t => hh.k0.lt t) (fun t => hh.k1.lt t)
  
  simp only
  (have hcondQ := Bool.and_self; refine Todo.of ?_); (repeat' (first | ((with_reducible refine Todo.to ?_); (repeat (first | (simp only [↓rP, rT, rU, eI, eU, eB, eS, eBs, eL, eA, buildCells, sepsD, sepB, hdl, dvalX, DOp.kind, dval, frameFrom, dBin, dInt, dStr, dBeq, dUn, dLoad, cellsAt, retV, retL, DR.val, fzT, fzVs, fzV, fz1, DV.immB, IntKind.bits, dCallP, viewVs, viewV, view1, capVL, capV, viewL, noMemV, noMem, elemsOf, dAppend, dAppz, dStore, DV.one, alive, freezeAt, fzLL, fzL, bRow, bU, cellsOf, setFrom, DV.isU, lenMax, lenCap, Nat.reduceEqDiff, Nat.reduceAdd, ↓reduceIte, reduceCtorEq, Nat.reduceSub, Int.reduceToNat, Int.reducePow, Nat.reducePow, Int.reduceLE, Int.reduceLT, Nat.reduceLeDiff, Nat.reduceLT, Int.reduceBEq, Int.reduceBNe, Int.reduceEq, Int.reduceNe, Int.reduceAdd, Int.reduceSub, Int.reduceMul, Int.reduceNeg, Int.reduceTDiv, Int.reduceTMod, Int.reduceMod, Int.reduceDiv, Nat.reduceMul, forall_const, implies_true, d_sync_atomic_Int64_Add, eEns, eIls, eImg, ePrt, ePrts, eRows, eSs, eTy, eVn, eY, sls_len, ils_len, ils_rowsT, sls_rowsT, sls_tk0, ils_tk0, o, dPut, one_len, List.drop_succ_cons, endC_normal, endC_ret , hcondQ]) | (simp (disch := omega) only [i64_id, u64_id, u8_id, getD_map'])))) | ((with_reducible refine And.intro ?_ ?_); · first | trivial | omega | (simp; done) | (simp; omega)) | ((first | ((with_reducible refine dwp_condI (t := ?_) ?_ (fun hcQ => ?_) (fun hcQ => ?_)); rotate_left; · rfl) | ((with_reducible refine dops_guardI (t := ?_) ?_ (fun hcQ => ?_) (fun hcQ => ?_)); rotate_left; · rfl)) <;> (have hn := hcQ; have hcondQ := hcQ) <;> (try simp only [decide_eq_true_eq, decide_eq_false_iff_not, beq_iff_eq, bne_iff_ne, ne_eq, Bool.and_eq_true, Bool.or_eq_true, Bool.not_eq_true, Bool.not_eq_false, beq_eq_false_iff_ne, bne_eq_false_iff_eq, Bool.not_eq_true', Bool.not_eq_false', Int.ofNat_lt, Int.ofNat_le, Bool.or_eq_false_iff, Bool.and_eq_false_imp, Decidable.not_not, gt_iff_lt, ge_iff_le] at hn) <;> (try (exfalso; omega)) <;> (refine Todo.of ?_)) | (((with_reducible refine dwp_condA ?_ ?_ ?_); · rfl) <;> (refine Todo.of ?_)))) <;> (try (first | (with_reducible rfl) | exact Nat.le_refl _ | exact Int.le_refl _ | assumption | omega))
  refine ⟨⟨[], ?_⟩, one_end hcut⟩
  rw [List.append_nil]
  simp only [one, incQ, oQ, cQ]
  rfl

theorem bcases (b : Bool) : b = false ∨ b = true := by cases b <;> simp
/-- What is let hold. -/
def okOt (s : Sp) : Prop := match s with | none => True | some (_, m, q) => m = true → q.ot.there = true → okV q.ot
def cmtB (s : Sp) : Bool := match s with | none => false | some (_, m, q) => m && q.ot.there && missF q.ot == 0
def cmtQ (q : Qs) : Qs := incQ (flipQ q)
noncomputable def s_Commit : List DV → List DObj → Res := specG rIs (fun s => (okOt s, .bool (cmtB s))) (fun s hp => if cmtB s then outS s cmtQ hp else hp)
theorem s_Commit_at {hp : List DObj} {n : Nat} {q : Qs} (h : Rep hp n true q) : s_Commit [.ptr n 1 0 0] hp = ⟨q.ot.there = true → okV q.ot, .bool (q.ot.there && missF q.ot == 0), if q.ot.there && missF q.ot == 0 then one hp n (oQ true (cmtQ q)) else hp⟩ := by
  have := specG_at (f := fun s => (okOt s, DV.bool (cmtB s))) (out := fun s hp => if cmtB s then outS s cmtQ hp else hp) rIs_u (x := some (n, true, q)) (a := [.ptr n 1 0 0]) (hp := hp) ⟨rfl, h⟩
  unfold s_Commit
  rw [this]
  simp only [okOt, cmtB, outS, Bool.true_and, forall_const, if_true]
theorem miss_at {v : Vn} (h : okV v) (t : v.there = true) : s_miss [.agg [.bool true, .sl (v.x.en.map cEn), .sl (v.x.ins.map cPrt), .sl (v.x.outs.map cPrt), .sl (v.x.slots.map cSlt), .sl (ils v.x.loc), .sl (v.x.code.map cIn4), .sl (ils v.st)]] = (True, .int .i64 (missF v)) := by
  have e := s_miss_at v
  rw [eq_true h] at e
  simp only [cVn, t] at e
  exact e
theorem ok_Commit : OkH Try.prog 14 s_Commit := by
  refine OkH.mkG (ps := [(26, s_miss)]) (hs := [(25, s_is), (29, s_other), (31, s_aLoad), (30, s_aStore), (32, s_aAdd)])
    ⟨ok_slot_version_missing, trivial⟩ ⟨ok_slot_is, ok_other, ok_aLoad, ok_aStore, ok_aAdd, trivial⟩ m_slot_Store_Commit (fun x a hp h => by rw [h.1]; rfl) (fun x a hp h hv => ?_)
  obtain ⟨rfl, hh⟩ := h
  
  rcases x with _ | ⟨n, m, q⟩
  · have e := s_is_nil (hp := hp)
    simp only [aS, cmtB, Bool.false_eq_true, if_false]
    (have hcondQ := Bool.and_self; refine Todo.of ?_); (repeat' (first | ((with_reducible refine Todo.to ?_); (repeat (first | (simp only [↓rP, rT, rU, eI, eU, eB, eS, eBs, eL, eA, buildCells, sepsD, sepB, hdl, dvalX, DOp.kind, dval, frameFrom, dBin, dInt, dStr, dBeq, dUn, dLoad, cellsAt, retV, retL, DR.val, fzT, fzVs, fzV, fz1, DV.immB, IntKind.bits, dCallP, viewVs, viewV, view1, capVL, capV, viewL, noMemV, noMem, elemsOf, dAppend, dAppz, dStore, DV.one, alive, freezeAt, fzLL, fzL, bRow, bU, cellsOf, setFrom, DV.isU, lenMax, lenCap, Nat.reduceEqDiff, Nat.reduceAdd, ↓reduceIte, reduceCtorEq, Nat.reduceSub, Int.reduceToNat, Int.reducePow, Nat.reducePow, Int.reduceLE, Int.reduceLT, Nat.reduceLeDiff, Nat.reduceLT, Int.reduceBEq, Int.reduceBNe, Int.reduceEq, Int.reduceNe, Int.reduceAdd, Int.reduceSub, Int.reduceMul, Int.reduceNeg, Int.reduceTDiv, Int.reduceTMod, Int.reduceMod, Int.reduceDiv, Nat.reduceMul, forall_const, implies_true, d_slot_Store_Commit, eEns, eIls, eImg, ePrt, ePrts, eRows, eSs, eTy, eVn, eY, sls_len, ils_len, ils_rowsT, sls_rowsT, sls_tk0, ils_tk0, e, endC_normal, endC_ret , hcondQ]) | (simp (disch := omega) only [i64_id, u64_id, u8_id, getD_map'])))) | ((with_reducible refine And.intro ?_ ?_); · first | trivial | omega | (simp; done) | (simp; omega)) | ((first | ((with_reducible refine dwp_condI (t := ?_) ?_ (fun hcQ => ?_) (fun hcQ => ?_)); rotate_left; · rfl) | ((with_reducible refine dops_guardI (t := ?_) ?_ (fun hcQ => ?_) (fun hcQ => ?_)); rotate_left; · rfl)) <;> (have hn := hcQ; have hcondQ := hcQ) <;> (try simp only [decide_eq_true_eq, decide_eq_false_iff_not, beq_iff_eq, bne_iff_ne, ne_eq, Bool.and_eq_true, Bool.or_eq_true, Bool.not_eq_true, Bool.not_eq_false, beq_eq_false_iff_ne, bne_eq_false_iff_eq, Bool.not_eq_true', Bool.not_eq_false', Int.ofNat_lt, Int.ofNat_le, Bool.or_eq_false_iff, Bool.and_eq_false_imp, Decidable.not_not, gt_iff_lt, ge_iff_le] at hn) <;> (try (exfalso; omega)) <;> (refine Todo.of ?_)) | (((with_reducible refine dwp_condA ?_ ?_ ?_); · rfl) <;> (refine Todo.of ?_)))) <;> (try (first | (with_reducible rfl) | exact Nat.le_refl _ | exact Int.le_refl _ | assumption | omega))
    exact same_end
  have hh : Rep hp n m q := hh
  have e1 := s_is_at hh
  have e2 := s_other_at hh
  have e3 := s_aLoad_17 hh
  have o := hh.o
  simp only [aS, cmtB, outS]
  cases m
  · simp only [Bool.false_and, Bool.false_eq_true, if_false]
    (have hcondQ := Bool.and_self; refine Todo.of ?_); (repeat' (first | ((with_reducible refine Todo.to ?_); (repeat (first | (simp only [↓rP, rT, rU, eI, eU, eB, eS, eBs, eL, eA, buildCells, sepsD, sepB, hdl, dvalX, DOp.kind, dval, frameFrom, dBin, dInt, dStr, dBeq, dUn, dLoad, cellsAt, retV, retL, DR.val, fzT, fzVs, fzV, fz1, DV.immB, IntKind.bits, dCallP, viewVs, viewV, view1, capVL, capV, viewL, noMemV, noMem, elemsOf, dAppend, dAppz, dStore, DV.one, alive, freezeAt, fzLL, fzL, bRow, bU, cellsOf, setFrom, DV.isU, lenMax, lenCap, Nat.reduceEqDiff, Nat.reduceAdd, ↓reduceIte, reduceCtorEq, Nat.reduceSub, Int.reduceToNat, Int.reducePow, Nat.reducePow, Int.reduceLE, Int.reduceLT, Nat.reduceLeDiff, Nat.reduceLT, Int.reduceBEq, Int.reduceBNe, Int.reduceEq, Int.reduceNe, Int.reduceAdd, Int.reduceSub, Int.reduceMul, Int.reduceNeg, Int.reduceTDiv, Int.reduceTMod, Int.reduceMod, Int.reduceDiv, Nat.reduceMul, forall_const, implies_true, d_slot_Store_Commit, eEns, eIls, eImg, ePrt, ePrts, eRows, eSs, eTy, eVn, eY, sls_len, ils_len, ils_rowsT, sls_rowsT, sls_tk0, ils_tk0, e1, endC_normal, endC_ret , hcondQ]) | (simp (disch := omega) only [i64_id, u64_id, u8_id, getD_map'])))) | ((with_reducible refine And.intro ?_ ?_); · first | trivial | omega | (simp; done) | (simp; omega)) | ((first | ((with_reducible refine dwp_condI (t := ?_) ?_ (fun hcQ => ?_) (fun hcQ => ?_)); rotate_left; · rfl) | ((with_reducible refine dops_guardI (t := ?_) ?_ (fun hcQ => ?_) (fun hcQ => ?_)); rotate_left; · rfl)) <;> (have hn := hcQ; have hcondQ := hcQ) <;> (try simp only [decide_eq_true_eq, decide_eq_false_iff_not, beq_iff_eq, bne_iff_ne, ne_eq, Bool.and_eq_true, Bool.or_eq_true, Bool.not_eq_true, Bool.not_eq_false, beq_eq_false_iff_ne, bne_eq_false_iff_eq, Bool.not_eq_true', Bool.not_eq_false', Int.ofNat_lt, Int.ofNat_le, Bool.or_eq_false_iff, Bool.and_eq_false_imp, Decidable.not_not, gt_iff_lt, ge_iff_le] at hn) <;> (try (exfalso; omega)) <;> (refine Todo.of ?_)) | (((with_reducible refine dwp_condA ?_ ?_ ?_); · rfl) <;> (refine Todo.of ?_)))) <;> (try (first | (with_reducible rfl) | exact Nat.le_refl _ | exact Int.le_refl _ | assumption | omega))
    exact same_end
  have hv : q.ot.there = true → okV q.ot := hv rfl
  have e4 := s_aStore_at hh
  have rf : Rep (one hp n (oQ true (flipQ q))) n true (flipQ q) := hh.set hh.k0 hh.k1 hh.ne
  have e5 := s_aAdd_at rf
  have og : (one hp n (oQ true (flipQ q)))[n]? = some ⟨.loc, 19, [cQ true (flipQ q) (hc (flipQ q).v0 (flipQ q).h0) (hc (flipQ q).v1 (flipQ q).h1)]⟩ := rf.o
  have hcut : (oQ true (cmtQ q)).cut hp.length = oQ true (cmtQ q) := oQ_cut (fun t => hh.k0.lt t) (fun t => hh.k1.lt t)
  have w0 : IntKind.i64.wrap 1 = 1 := by decide
  have w1 : IntKind.i64.wrap 0 = 0 := by decide
  have fin : (∃ t, one hp n (oQ true (cmtQ q)) = one hp n (oQ true (cmtQ q)) ++ t) := ⟨[], (List.append_nil _).symm⟩
  rw [one_one] at e5
  have ec : oQ true (incQ (flipQ q)) = oQ true (cmtQ q) := rfl
  rw [ec] at e5
  unfold Qs.ot at hv ⊢
  rcases bcases q.b with b | b
  all_goals simp only [b, Bool.false_eq_true, if_true, if_false, Bool.true_and] at e2 e3 e4 hv ⊢
  · cases t : q.v1.there
    · simp only [Bool.false_and, Bool.false_eq_true, if_false]
      simp only [oQ, cQ, t, b, hc, Bool.false_eq_true, if_false] at o
      (have hcondQ := Bool.and_self; refine Todo.of ?_); (repeat' (first | ((with_reducible refine Todo.to ?_); (repeat (first | (simp only [↓rP, rT, rU, eI, eU, eB, eS, eBs, eL, eA, buildCells, sepsD, sepB, hdl, dvalX, DOp.kind, dval, frameFrom, dBin, dInt, dStr, dBeq, dUn, dLoad, cellsAt, retV, retL, DR.val, fzT, fzVs, fzV, fz1, DV.immB, IntKind.bits, dCallP, viewVs, viewV, view1, capVL, capV, viewL, noMemV, noMem, elemsOf, dAppend, dAppz, dStore, DV.one, alive, freezeAt, fzLL, fzL, bRow, bU, cellsOf, setFrom, DV.isU, lenMax, lenCap, Nat.reduceEqDiff, Nat.reduceAdd, ↓reduceIte, reduceCtorEq, Nat.reduceSub, Int.reduceToNat, Int.reducePow, Nat.reducePow, Int.reduceLE, Int.reduceLT, Nat.reduceLeDiff, Nat.reduceLT, Int.reduceBEq, Int.reduceBNe, Int.reduceEq, Int.reduceNe, Int.reduceAdd, Int.reduceSub, Int.reduceMul, Int.reduceNeg, Int.reduceTDiv, Int.reduceTMod, Int.reduceMod, Int.reduceDiv, Nat.reduceMul, forall_const, implies_true, d_slot_Store_Commit, eEns, eIls, eImg, ePrt, ePrts, eRows, eSs, eTy, eVn, eY, sls_len, ils_len, ils_rowsT, sls_rowsT, sls_tk0, ils_tk0, e1, e2, o, List.drop_succ_cons, endC_normal, endC_ret , hcondQ]) | (simp (disch := omega) only [i64_id, u64_id, u8_id, getD_map'])))) | ((with_reducible refine And.intro ?_ ?_); · first | trivial | omega | (simp; done) | (simp; omega)) | ((first | ((with_reducible refine dwp_condI (t := ?_) ?_ (fun hcQ => ?_) (fun hcQ => ?_)); rotate_left; · rfl) | ((with_reducible refine dops_guardI (t := ?_) ?_ (fun hcQ => ?_) (fun hcQ => ?_)); rotate_left; · rfl)) <;> (have hn := hcQ; have hcondQ := hcQ) <;> (try simp only [decide_eq_true_eq, decide_eq_false_iff_not, beq_iff_eq, bne_iff_ne, ne_eq, Bool.and_eq_true, Bool.or_eq_true, Bool.not_eq_true, Bool.not_eq_false, beq_eq_false_iff_ne, bne_eq_false_iff_eq, Bool.not_eq_true', Bool.not_eq_false', Int.ofNat_lt, Int.ofNat_le, Bool.or_eq_false_iff, Bool.and_eq_false_imp, Decidable.not_not, gt_iff_lt, ge_iff_le] at hn) <;> (try (exfalso; omega)) <;> (refine Todo.of ?_)) | (((with_reducible refine dwp_condA ?_ ?_ ?_); · rfl) <;> (refine Todo.of ?_)))) <;> (try (first | (with_reducible rfl) | exact Nat.le_refl _ | exact Int.le_refl _ | assumption | omega))
      exact same_end
    · have hk := (hh.k1.1 t).1
      have em := miss_at (hv t) t
      have tk := ils_tkl q.v1.st
      simp only [oQ, cQ, t, b, hc, Bool.false_eq_true, if_false, if_true] at o
      simp only [oSt] at hk
      by_cases z : missF q.v1 = 0
      · have z1 : (missF q.v1 != 0) = false := by simp [z]
        have z2 : (missF q.v1 == 0) = true := by simp [z]
        simp only [z2, Bool.true_and, if_true]
        (have hcondQ := Bool.and_self; refine Todo.of ?_); (repeat' (first | ((with_reducible refine Todo.to ?_); (repeat (first | (simp only [↓rP, rT, rU, eI, eU, eB, eS, eBs, eL, eA, buildCells, sepsD, sepB, hdl, dvalX, DOp.kind, dval, frameFrom, dBin, dInt, dStr, dBeq, dUn, dLoad, cellsAt, retV, retL, DR.val, fzT, fzVs, fzV, fz1, DV.immB, IntKind.bits, dCallP, viewVs, viewV, view1, capVL, capV, viewL, noMemV, noMem, elemsOf, dAppend, dAppz, dStore, DV.one, alive, freezeAt, fzLL, fzL, bRow, bU, cellsOf, setFrom, DV.isU, lenMax, lenCap, Nat.reduceEqDiff, Nat.reduceAdd, ↓reduceIte, reduceCtorEq, Nat.reduceSub, Int.reduceToNat, Int.reducePow, Nat.reducePow, Int.reduceLE, Int.reduceLT, Nat.reduceLeDiff, Nat.reduceLT, Int.reduceBEq, Int.reduceBNe, Int.reduceEq, Int.reduceNe, Int.reduceAdd, Int.reduceSub, Int.reduceMul, Int.reduceNeg, Int.reduceTDiv, Int.reduceTMod, Int.reduceMod, Int.reduceDiv, Nat.reduceMul, forall_const, implies_true, d_slot_Store_Commit, eEns, eIls, eImg, ePrt, ePrts, eRows, eSs, eTy, eVn, eY, sls_len, ils_len, ils_rowsT, sls_rowsT, sls_tk0, ils_tk0, e1, e2, e3, e4, e5, em, z1, o, og, hk, tk, w0, w1, ils_len, one_len, List.drop_succ_cons, endC_normal, endC_ret , hcondQ]) | (simp (disch := omega) only [i64_id, u64_id, u8_id, getD_map'])))) | ((with_reducible refine And.intro ?_ ?_); · first | trivial | omega | (simp; done) | (simp; omega)) | ((first | ((with_reducible refine dwp_condI (t := ?_) ?_ (fun hcQ => ?_) (fun hcQ => ?_)); rotate_left; · rfl) | ((with_reducible refine dops_guardI (t := ?_) ?_ (fun hcQ => ?_) (fun hcQ => ?_)); rotate_left; · rfl)) <;> (have hn := hcQ; have hcondQ := hcQ) <;> (try simp only [decide_eq_true_eq, decide_eq_false_iff_not, beq_iff_eq, bne_iff_ne, ne_eq, Bool.and_eq_true, Bool.or_eq_true, Bool.not_eq_true, Bool.not_eq_false, beq_eq_false_iff_ne, bne_eq_false_iff_eq, Bool.not_eq_true', Bool.not_eq_false', Int.ofNat_lt, Int.ofNat_le, Bool.or_eq_false_iff, Bool.and_eq_false_imp, Decidable.not_not, gt_iff_lt, ge_iff_le] at hn) <;> (try (exfalso; omega)) <;> (refine Todo.of ?_)) | (((with_reducible refine dwp_condA ?_ ?_ ?_); · rfl) <;> (refine Todo.of ?_)))) <;> (try (first | (with_reducible rfl) | exact Nat.le_refl _ | exact Int.le_refl _ | assumption | omega))
        exact one_end hcut
      · have z1 : (missF q.v1 != 0) = true := by simp [z]
        have z2 : (missF q.v1 == 0) = false := by simp [z]
        simp only [z2, Bool.and_false, Bool.false_eq_true, if_false]
        (have hcondQ := Bool.and_self; refine Todo.of ?_); (repeat' (first | ((with_reducible refine Todo.to ?_); (repeat (first | (simp only [↓rP, rT, rU, eI, eU, eB, eS, eBs, eL, eA, buildCells, sepsD, sepB, hdl, dvalX, DOp.kind, dval, frameFrom, dBin, dInt, dStr, dBeq, dUn, dLoad, cellsAt, retV, retL, DR.val, fzT, fzVs, fzV, fz1, DV.immB, IntKind.bits, dCallP, viewVs, viewV, view1, capVL, capV, viewL, noMemV, noMem, elemsOf, dAppend, dAppz, dStore, DV.one, alive, freezeAt, fzLL, fzL, bRow, bU, cellsOf, setFrom, DV.isU, lenMax, lenCap, Nat.reduceEqDiff, Nat.reduceAdd, ↓reduceIte, reduceCtorEq, Nat.reduceSub, Int.reduceToNat, Int.reducePow, Nat.reducePow, Int.reduceLE, Int.reduceLT, Nat.reduceLeDiff, Nat.reduceLT, Int.reduceBEq, Int.reduceBNe, Int.reduceEq, Int.reduceNe, Int.reduceAdd, Int.reduceSub, Int.reduceMul, Int.reduceNeg, Int.reduceTDiv, Int.reduceTMod, Int.reduceMod, Int.reduceDiv, Nat.reduceMul, forall_const, implies_true, d_slot_Store_Commit, eEns, eIls, eImg, ePrt, ePrts, eRows, eSs, eTy, eVn, eY, sls_len, ils_len, ils_rowsT, sls_rowsT, sls_tk0, ils_tk0, e1, e2, e3, em, z1, o, hk, tk, ils_len, List.drop_succ_cons, endC_normal, endC_ret , hcondQ]) | (simp (disch := omega) only [i64_id, u64_id, u8_id, getD_map'])))) | ((with_reducible refine And.intro ?_ ?_); · first | trivial | omega | (simp; done) | (simp; omega)) | ((first | ((with_reducible refine dwp_condI (t := ?_) ?_ (fun hcQ => ?_) (fun hcQ => ?_)); rotate_left; · rfl) | ((with_reducible refine dops_guardI (t := ?_) ?_ (fun hcQ => ?_) (fun hcQ => ?_)); rotate_left; · rfl)) <;> (have hn := hcQ; have hcondQ := hcQ) <;> (try simp only [decide_eq_true_eq, decide_eq_false_iff_not, beq_iff_eq, bne_iff_ne, ne_eq, Bool.and_eq_true, Bool.or_eq_true, Bool.not_eq_true, Bool.not_eq_false, beq_eq_false_iff_ne, bne_eq_false_iff_eq, Bool.not_eq_true', Bool.not_eq_false', Int.ofNat_lt, Int.ofNat_le, Bool.or_eq_false_iff, Bool.and_eq_false_imp, Decidable.not_not, gt_iff_lt, ge_iff_le] at hn) <;> (try (exfalso; omega)) <;> (refine Todo.of ?_)) | (((with_reducible refine dwp_condA ?_ ?_ ?_); · rfl) <;> (refine Todo.of ?_)))) <;> (try (first | (with_reducible rfl) | exact Nat.le_refl _ | exact Int.le_refl _ | assumption | omega))
        exact same_end
  · cases t : q.v0.there
    · simp only [Bool.false_and, Bool.false_eq_true, if_false]
      simp only [oQ, cQ, t, b, hc, Bool.false_eq_true, if_false] at o
      (have hcondQ := Bool.and_self; refine Todo.of ?_); (repeat' (first | ((with_reducible refine Todo.to ?_); (repeat (first | (simp only [↓rP, rT, rU, eI, eU, eB, eS, eBs, eL, eA, buildCells, sepsD, sepB, hdl, dvalX, DOp.kind, dval, frameFrom, dBin, dInt, dStr, dBeq, dUn, dLoad, cellsAt, retV, retL, DR.val, fzT, fzVs, fzV, fz1, DV.immB, IntKind.bits, dCallP, viewVs, viewV, view1, capVL, capV, viewL, noMemV, noMem, elemsOf, dAppend, dAppz, dStore, DV.one, alive, freezeAt, fzLL, fzL, bRow, bU, cellsOf, setFrom, DV.isU, lenMax, lenCap, Nat.reduceEqDiff, Nat.reduceAdd, ↓reduceIte, reduceCtorEq, Nat.reduceSub, Int.reduceToNat, Int.reducePow, Nat.reducePow, Int.reduceLE, Int.reduceLT, Nat.reduceLeDiff, Nat.reduceLT, Int.reduceBEq, Int.reduceBNe, Int.reduceEq, Int.reduceNe, Int.reduceAdd, Int.reduceSub, Int.reduceMul, Int.reduceNeg, Int.reduceTDiv, Int.reduceTMod, Int.reduceMod, Int.reduceDiv, Nat.reduceMul, forall_const, implies_true, d_slot_Store_Commit, eEns, eIls, eImg, ePrt, ePrts, eRows, eSs, eTy, eVn, eY, sls_len, ils_len, ils_rowsT, sls_rowsT, sls_tk0, ils_tk0, e1, e2, o, List.drop_succ_cons, endC_normal, endC_ret , hcondQ]) | (simp (disch := omega) only [i64_id, u64_id, u8_id, getD_map'])))) | ((with_reducible refine And.intro ?_ ?_); · first | trivial | omega | (simp; done) | (simp; omega)) | ((first | ((with_reducible refine dwp_condI (t := ?_) ?_ (fun hcQ => ?_) (fun hcQ => ?_)); rotate_left; · rfl) | ((with_reducible refine dops_guardI (t := ?_) ?_ (fun hcQ => ?_) (fun hcQ => ?_)); rotate_left; · rfl)) <;> (have hn := hcQ; have hcondQ := hcQ) <;> (try simp only [decide_eq_true_eq, decide_eq_false_iff_not, beq_iff_eq, bne_iff_ne, ne_eq, Bool.and_eq_true, Bool.or_eq_true, Bool.not_eq_true, Bool.not_eq_false, beq_eq_false_iff_ne, bne_eq_false_iff_eq, Bool.not_eq_true', Bool.not_eq_false', Int.ofNat_lt, Int.ofNat_le, Bool.or_eq_false_iff, Bool.and_eq_false_imp, Decidable.not_not, gt_iff_lt, ge_iff_le] at hn) <;> (try (exfalso; omega)) <;> (refine Todo.of ?_)) | (((with_reducible refine dwp_condA ?_ ?_ ?_); · rfl) <;> (refine Todo.of ?_)))) <;> (try (first | (with_reducible rfl) | exact Nat.le_refl _ | exact Int.le_refl _ | assumption | omega))
      exact same_end
    · have hk := (hh.k0.1 t).1
      have em := miss_at (hv t) t
      have tk := ils_tkl q.v0.st
      simp only [oQ, cQ, t, b, hc, Bool.false_eq_true, if_false, if_true] at o
      simp only [oSt] at hk
      by_cases z : missF q.v0 = 0
      · have z1 : (missF q.v0 != 0) = false := by simp [z]
        have z2 : (missF q.v0 == 0) = true := by simp [z]
        simp only [z2, Bool.true_and, if_true]
        (have hcondQ := Bool.and_self; refine Todo.of ?_); (repeat' (first | ((with_reducible refine Todo.to ?_); (repeat (first | (simp only [↓rP, rT, rU, eI, eU, eB, eS, eBs, eL, eA, buildCells, sepsD, sepB, hdl, dvalX, DOp.kind, dval, frameFrom, dBin, dInt, dStr, dBeq, dUn, dLoad, cellsAt, retV, retL, DR.val, fzT, fzVs, fzV, fz1, DV.immB, IntKind.bits, dCallP, viewVs, viewV, view1, capVL, capV, viewL, noMemV, noMem, elemsOf, dAppend, dAppz, dStore, DV.one, alive, freezeAt, fzLL, fzL, bRow, bU, cellsOf, setFrom, DV.isU, lenMax, lenCap, Nat.reduceEqDiff, Nat.reduceAdd, ↓reduceIte, reduceCtorEq, Nat.reduceSub, Int.reduceToNat, Int.reducePow, Nat.reducePow, Int.reduceLE, Int.reduceLT, Nat.reduceLeDiff, Nat.reduceLT, Int.reduceBEq, Int.reduceBNe, Int.reduceEq, Int.reduceNe, Int.reduceAdd, Int.reduceSub, Int.reduceMul, Int.reduceNeg, Int.reduceTDiv, Int.reduceTMod, Int.reduceMod, Int.reduceDiv, Nat.reduceMul, forall_const, implies_true, d_slot_Store_Commit, eEns, eIls, eImg, ePrt, ePrts, eRows, eSs, eTy, eVn, eY, sls_len, ils_len, ils_rowsT, sls_rowsT, sls_tk0, ils_tk0, e1, e2, e3, e4, e5, em, z1, o, og, hk, tk, w0, w1, ils_len, one_len, List.drop_succ_cons, endC_normal, endC_ret , hcondQ]) | (simp (disch := omega) only [i64_id, u64_id, u8_id, getD_map'])))) | ((with_reducible refine And.intro ?_ ?_); · first | trivial | omega | (simp; done) | (simp; omega)) | ((first | ((with_reducible refine dwp_condI (t := ?_) ?_ (fun hcQ => ?_) (fun hcQ => ?_)); rotate_left; · rfl) | ((with_reducible refine dops_guardI (t := ?_) ?_ (fun hcQ => ?_) (fun hcQ => ?_)); rotate_left; · rfl)) <;> (have hn := hcQ; have hcondQ := hcQ) <;> (try simp only [decide_eq_true_eq, decide_eq_false_iff_not, beq_iff_eq, bne_iff_ne, ne_eq, Bool.and_eq_true, Bool.or_eq_true, Bool.not_eq_true, Bool.not_eq_false, beq_eq_false_iff_ne, bne_eq_false_iff_eq, Bool.not_eq_true', Bool.not_eq_false', Int.ofNat_lt, Int.ofNat_le, Bool.or_eq_false_iff, Bool.and_eq_false_imp, Decidable.not_not, gt_iff_lt, ge_iff_le] at hn) <;> (try (exfalso; omega)) <;> (refine Todo.of ?_)) | (((with_reducible refine dwp_condA ?_ ?_ ?_); · rfl) <;> (refine Todo.of ?_)))) <;> (try (first | (with_reducible rfl) | exact Nat.le_refl _ | exact Int.le_refl _ | assumption | omega))
        exact one_end hcut
      · have z1 : (missF q.v0 != 0) = true := by simp [z]
        have z2 : (missF q.v0 == 0) = false := by simp [z]
        simp only [z2, Bool.and_false, Bool.false_eq_true, if_false]
        (have hcondQ := Bool.and_self; refine Todo.of ?_); (repeat' (first | ((with_reducible refine Todo.to ?_); (repeat (first | (simp only [↓rP, rT, rU, eI, eU, eB, eS, eBs, eL, eA, buildCells, sepsD, sepB, hdl, dvalX, DOp.kind, dval, frameFrom, dBin, dInt, dStr, dBeq, dUn, dLoad, cellsAt, retV, retL, DR.val, fzT, fzVs, fzV, fz1, DV.immB, IntKind.bits, dCallP, viewVs, viewV, view1, capVL, capV, viewL, noMemV, noMem, elemsOf, dAppend, dAppz, dStore, DV.one, alive, freezeAt, fzLL, fzL, bRow, bU, cellsOf, setFrom, DV.isU, lenMax, lenCap, Nat.reduceEqDiff, Nat.reduceAdd, ↓reduceIte, reduceCtorEq, Nat.reduceSub, Int.reduceToNat, Int.reducePow, Nat.reducePow, Int.reduceLE, Int.reduceLT, Nat.reduceLeDiff, Nat.reduceLT, Int.reduceBEq, Int.reduceBNe, Int.reduceEq, Int.reduceNe, Int.reduceAdd, Int.reduceSub, Int.reduceMul, Int.reduceNeg, Int.reduceTDiv, Int.reduceTMod, Int.reduceMod, Int.reduceDiv, Nat.reduceMul, forall_const, implies_true, d_slot_Store_Commit, eEns, eIls, eImg, ePrt, ePrts, eRows, eSs, eTy, eVn, eY, sls_len, ils_len, ils_rowsT, sls_rowsT, sls_tk0, ils_tk0, e1, e2, e3, em, z1, o, hk, tk, ils_len, List.drop_succ_cons, endC_normal, endC_ret , hcondQ]) | (simp (disch := omega) only [i64_id, u64_id, u8_id, getD_map'])))) | ((with_reducible refine And.intro ?_ ?_); · first | trivial | omega | (simp; done) | (simp; omega)) | ((first | ((with_reducible refine dwp_condI (t := ?_) ?_ (fun hcQ => ?_) (fun hcQ => ?_)); rotate_left; · rfl) | ((with_reducible refine dops_guardI (t := ?_) ?_ (fun hcQ => ?_) (fun hcQ => ?_)); rotate_left; · rfl)) <;> (have hn := hcQ; have hcondQ := hcQ) <;> (try simp only [decide_eq_true_eq, decide_eq_false_iff_not, beq_iff_eq, bne_iff_ne, ne_eq, Bool.and_eq_true, Bool.or_eq_true, Bool.not_eq_true, Bool.not_eq_false, beq_eq_false_iff_ne, bne_eq_false_iff_eq, Bool.not_eq_true', Bool.not_eq_false', Int.ofNat_lt, Int.ofNat_le, Bool.or_eq_false_iff, Bool.and_eq_false_imp, Decidable.not_not, gt_iff_lt, ge_iff_le] at hn) <;> (try (exfalso; omega)) <;> (refine Todo.of ?_)) | (((with_reducible refine dwp_condA ?_ ?_ ?_); · rfl) <;> (refine Todo.of ?_)))) <;> (try (first | (with_reducible rfl) | exact Nat.le_refl _ | exact Int.le_refl _ | assumption | omega))
        exact same_end
end Go.Proofs.Ytfjddinibppmdaa
