/- Writers: two objects, the struct and the bytes; what each function tells, and makes of them. -/
import Derived.Test.YtpohoagllmocnaaRdLive
set_option linter.unusedSimpArgs false
set_option linter.unusedVariables false
set_option maxRecDepth 20000
namespace Go.Proofs.Ytpohoagllmocnaa
open Go.Nk

/-- What was written; nothing: it failed. -/
abbrev WS := Option (List UInt8)

/-- A writer's struct at n, its bytes at m; g: what the second field says of a writer that is well. -/
def isW (g : Bool) (hp : List DObj) (n m : Nat) : WS → Prop
  | some b => hp[n]? = some ⟨.loc, 2, [[.own m b.length 0 b.length, .bool g]]⟩ ∧ hp[m]? = some ⟨.imm, 1, bsl b⟩ ∧ n ≠ m
  | none => hp[n]? = some ⟨.loc, 2, [[.nil, .bool (!g)]]⟩
def setW (g : Bool) (hp : List DObj) (n m : Nat) : WS → List DObj
  | some b => (hp.set m ⟨.imm, 1, bsl b⟩).set n ⟨.loc, 2, [[.own m b.length 0 b.length, .bool g]]⟩
  | none => hp.set n ⟨.loc, 2, [[.nil, .bool (!g)]]⟩

theorem isW_lt {g : Bool} {hp : List DObj} {n m : Nat} {s : WS} (h : isW g hp n m s) : n < hp.length := by
  cases s with
  | some b => exact (List.getElem?_eq_some_iff.1 h.1).1
  | none => exact (List.getElem?_eq_some_iff.1 h).1
theorem isW_lt2 {g : Bool} {hp : List DObj} {n m : Nat} {b : List UInt8} (h : isW g hp n m (some b)) : m < hp.length := (List.getElem?_eq_some_iff.1 h.2.1).1
theorem set_w {g : Bool} {hp : List DObj} {n m : Nat} {s : WS} (h : isW g hp n m s) : setW g hp n m s = hp := by
  cases s with
  | some b =>
    show (hp.set m _).set n _ = hp
    rw [set_same h.2.1, set_same h.1]
  | none => exact set_same h

/-- What is asked, told, and written then. -/
def fW {α : Type} (g : Bool) (f : List UInt8 → α → Prop × DV × WS) : List DObj → Nat → Nat → List UInt8 → α → Res := fun hp n m b a => ⟨(f b a).1, (f b a).2.1, setW g hp n m (f b a).2.2⟩

open Classical in
noncomputable def specW {α : Type} (g : Bool) (args : α → List DV) (f : List DObj → Nat → Nat → List UInt8 → α → Res) (d : α → Prop × DV) (z : α → Prop × DV) : List DV → List DObj → Res := fun a hp =>
  if h : ∃ x : Nat × Nat × List UInt8 × α, a = .ptr x.1 1 0 0 :: args x.2.2.2 ∧ isW g hp x.1 x.2.1 (some x.2.2.1) then
    f hp h.choose.1 h.choose.2.1 h.choose.2.2.1 h.choose.2.2.2
  else if h : ∃ x : Nat × α, a = .ptr x.1 1 0 0 :: args x.2 ∧ isW g hp x.1 0 none then ⟨(d h.choose.2).1, (d h.choose.2).2, hp⟩
  else if h : ∃ x : α, a = .nilp :: args x then ⟨(z h.choose).1, (z h.choose).2, hp⟩
  else no

section
variable {α : Type} {g : Bool} {args : α → List DV} {f : List DObj → Nat → Nat → List UInt8 → α → Res} {d : α → Prop × DV} {z : α → Prop × DV}
theorem specW_at (ha : InjL args) {hp : List DObj} {n m : Nat} {b : List UInt8} (hw : isW g hp n m (some b)) (a : α) :
    specW g args f d z (.ptr n 1 0 0 :: args a) hp = f hp n m b a := by
  unfold specW
  have hx : ∃ x : Nat × Nat × List UInt8 × α, .ptr n 1 0 0 :: args a = .ptr x.1 1 0 0 :: args x.2.2.2 ∧ isW g hp x.1 x.2.1 (some x.2.2.1) := ⟨(n, m, b, a), rfl, hw⟩
  rw [dif_pos hx]
  have hy := hx.choose_spec
  generalize hx.choose = x at hy ⊢
  obtain ⟨n', m', b', a'⟩ := x
  obtain ⟨h1, h2⟩ := hy
  dsimp only at *
  have h3 := List.cons.inj h1
  injection h3.1 with h4
  subst h4
  have h5 := ha _ _ h3.2
  subst h5
  have h6 := hw.1.symm.trans h2.1
  simp only [Option.some.injEq, DObj.mk.injEq, List.cons.injEq, DV.own.injEq, and_true, true_and] at h6
  obtain ⟨rfl, _⟩ := h6
  have h7 := hw.2.1.symm.trans h2.2.1
  simp only [Option.some.injEq, DObj.mk.injEq, true_and] at h7
  rw [bsl_inj h7]
theorem specW_bad (ha : InjL args) {hp : List DObj} {n : Nat} (hw : isW g hp n 0 none) (a : α) : specW g args f d z (.ptr n 1 0 0 :: args a) hp = ⟨(d a).1, (d a).2, hp⟩ := by
  unfold specW
  have hn : ¬ ∃ x : Nat × Nat × List UInt8 × α, .ptr n 1 0 0 :: args a = .ptr x.1 1 0 0 :: args x.2.2.2 ∧ isW g hp x.1 x.2.1 (some x.2.2.1) := by
    rintro ⟨⟨n', m', b', a'⟩, h1, h2⟩
    injection (List.cons.inj h1).1 with h4
    dsimp only at h4 h2
    subst h4
    have h6 := (show hp[n]? = _ from hw).symm.trans h2.1
    simp at h6
  rw [dif_neg hn]
  have hx : ∃ x : Nat × α, .ptr n 1 0 0 :: args a = .ptr x.1 1 0 0 :: args x.2 ∧ isW g hp x.1 0 none := ⟨(n, a), rfl, hw⟩
  rw [dif_pos hx]
  have hy := hx.choose_spec
  generalize hx.choose = x at hy ⊢
  have h5 := ha _ _ (List.cons.inj hy.1).2
  rw [← h5]
theorem specW_nil (ha : InjL args) (hp : List DObj) (a : α) : specW g args f d z (.nilp :: args a) hp = ⟨(z a).1, (z a).2, hp⟩ := by
  unfold specW
  have hn : ¬ ∃ x : Nat × Nat × List UInt8 × α, .nilp :: args a = .ptr x.1 1 0 0 :: args x.2.2.2 ∧ isW g hp x.1 x.2.1 (some x.2.2.1) := by
    rintro ⟨x, h1, _⟩; cases (List.cons.inj h1).1
  have hn2 : ¬ ∃ x : Nat × α, .nilp :: args a = .ptr x.1 1 0 0 :: args x.2 ∧ isW g hp x.1 0 none := by
    rintro ⟨x, h1, _⟩; cases (List.cons.inj h1).1
  rw [dif_neg hn, dif_neg hn2]
  have hx : ∃ x : α, .nilp :: args a = .nilp :: args x := ⟨a, rfl⟩
  rw [dif_pos hx]
  have hy := hx.choose_spec
  generalize hx.choose = x at hy ⊢
  have h5 := ha _ _ (List.cons.inj hy).2
  rw [← h5]
theorem OkH.mkW {P : Program} {ps hs} {fn : FuncId} {df : DFun} {N : Nat} (h1 : AllP P ps) (h2 : AllH P hs) (hm : mFun P fn N df = true) (hN : ∀ a, (args a).length + 1 = N)
    (k : ∀ n m hp b a, isW g hp n m (some b) → n < hp.length → m < hp.length → (f hp n m b a).pre → dwp (Orc.of ps hs) hp.length df.code (EndH df.res (f hp n m b a).val (f hp n m b a).hp) ⟨(0, .ptr n 1 0 0) :: frameFrom 1 (args a), hp⟩)
    (kb : ∀ n hp a, isW g hp n 0 none → n < hp.length → (d a).1 → dwp (Orc.of ps hs) hp.length df.code (EndH df.res (d a).2 hp) ⟨(0, .ptr n 1 0 0) :: frameFrom 1 (args a), hp⟩)
    (kn : ∀ hp a, (z a).1 → dwp (Orc.of ps hs) hp.length df.code (EndH df.res (z a).2 hp) ⟨(0, .nilp) :: frameFrom 1 (args a), hp⟩) : OkH P fn (specW g args f d z) := by
  refine OkH.mk h1 h2 hm fun a hp hpre => ?_
  unfold specW at hpre ⊢
  split at hpre
  · rename_i h
    rw [dif_pos h]
    have hx := h.choose_spec
    generalize h.choose = x at hx hpre ⊢
    obtain ⟨rfl, hx⟩ := hx
    exact ⟨hN _, k _ _ _ _ _ hx (isW_lt hx) (isW_lt2 hx) hpre⟩
  · rename_i h
    rw [dif_neg h]
    split at hpre
    · rename_i h'
      rw [dif_pos h']
      have hx := h'.choose_spec
      generalize h'.choose = x at hx hpre ⊢
      obtain ⟨rfl, hx⟩ := hx
      exact ⟨hN _, kb _ _ _ hx (isW_lt hx) hpre⟩
    · rename_i h'
      rw [dif_neg h']
      split at hpre
      · rename_i h''
        rw [dif_pos h'']
        have hx := h''.choose_spec
        generalize h''.choose = x at hx hpre ⊢
        subst hx
        exact ⟨hN _, kn _ _ hpre⟩
      · exact hpre.elim
end

/-! Ok, Bytes, lay -/
noncomputable def s_wOk : List DV → List DObj → Res := specW true (fun _ : Unit => []) (fW true fun b _ => (True, .bool true, some b)) (fun _ => (True, .bool false)) (fun _ => (True, .bool false))
theorem s_wOk_at {hp : List DObj} {n m : Nat} {b : List UInt8} (hw : isW true hp n m (some b)) : s_wOk [.ptr n 1 0 0] hp = ⟨True, .bool true, hp⟩ := by
  refine (specW_at (injL_unit _) hw ()).trans ?_
  unfold fW
  rw [set_w hw]
theorem s_wOk_bad {hp : List DObj} {n : Nat} (hw : isW true hp n 0 none) : s_wOk [.ptr n 1 0 0] hp = ⟨True, .bool false, hp⟩ := specW_bad (injL_unit _) hw ()
theorem s_wOk_nil (hp : List DObj) : s_wOk [.nilp] hp = ⟨True, .bool false, hp⟩ := specW_nil (injL_unit _) hp ()
theorem ok_wOk : OkH Try.prog 31 s_wOk := by
  refine OkH.mkW (ps := []) (hs := []) trivial trivial m_reader_Writer_Ok (fun _ => rfl) (fun n m hp b a hw hn hm h => ?_) (fun n hp a hw hn _ => ?_) (fun hp a h => ?_)
  · have hh := hw.1
    unfold fW
    rw [set_w hw]
    simp only [d_reader_Writer_Ok, false_and, and_false, if_false, ite_true, ite_false, eI, eU, eB, eS, eBs, eL, eA, List.cons_append, List.take_succ_cons, List.drop_succ_cons, buildCells, List.take_zero, List.take_nil, ↓dwp_skip, ↓dwp_ops, ↓dwp_opsP,  ↓dwp_opsS, sepsD, sepB, hdl, Only_set, Only_same, Only_zero, Only_succ, ↓dwp_seq, ↓dwp_block, ↓dwp_exit, ↓dwp_ret, ↓dwp_cond, dvalX, DOp.kind, dops_nil, dops_none, dops_some, ↓then_normal, ↓then_exit, ↓then_ret, ↓inBlock_normal, ↓inBlock_exit, ↓inBlock_ret, put_some, put_none, ev_t, ev_c, endP_normal, endP_ret, endH_normal, endH_ret, dval, frameFrom, get_cons, Nk.get_nil, Nat.reduceEqDiff, Nat.reduceAdd, ↓reduceIte, if_true, Nat.succ_ne_self, true_and, and_true, Bool.not_true, beq_ft, beq_tf, bne_ft, bne_tf, bne_self_eq_false, Bool.not_false, dBin, dInt, dStr, dBeq, dUn, dLoad, cellsAt, retV, retL, DR.val, fzT, fzVs, fzV, fz1, DV.immB, List.map_cons, List.map_nil, Option.map_some, Option.map_none, Bool.false_eq_true, false_implies, forall_const, Bool.true_eq_false, reduceCtorEq, implies_true, Int.toNat_natCast, Nat.zero_ne_one, Nat.one_ne_zero, Nat.reduceSub, List.length_cons, List.length_nil, List.getD_cons_zero, List.getD_cons_succ, Int.reduceToNat, IntKind.bits, Int.reducePow, Nat.reducePow, Nat.lt_add_one, Nat.zero_lt_one, Int.reduceLE, Int.reduceLT, Nat.reduceLeDiff, Nat.reduceLT, Nat.zero_add,  decide_eq_true_eq, decide_eq_false_iff_not, Int.ofNat_lt, bsl_length, dCallP, viewVs, viewV, view1, viewL, noMemV, noMem, of_p, of_h, pOf_cons, hOf_cons, spec0_at, specB1_at, specB2_at, specB1_nil, specB2_nil1, specB2_nil2, specB2_nil3, spec1_at, List.all_cons, List.all_nil, Bool.and_true, Bool.and_false, Bool.true_and, Bool.false_and, not_true_eq_false, not_false_eq_true, List.getElem?_cons_zero, List.getElem?_cons_succ, List.set_cons_zero, List.set_set, List.set_cons_succ, elemsOf, dAppend, dStore, DV.one, alive, freezeAt, List.drop_zero, List.take_length, List.not_mem_nil, List.forall_mem_cons, List.nil_append, fzLL, fzL, bRow, bU, cellsOf, true_or, or_true, or_false, false_or, or_self, setFrom, DV.isU, beq_self_eq_true, List.length_set, List.length_append, List.length_replicate, decide_true, decide_false, gt_iff_lt, ge_iff_le, slice_lo, slice_hi, slice_both, List.getElem?_nil, Int.reduceBEq, Int.reduceBNe, Int.reduceEq, Int.reduceNe, Int.reduceAdd, Int.reduceSub, Int.reduceMul, Int.reduceNeg, Int.reduceTDiv, Int.reduceTMod, Int.reduceMod, Int.reduceDiv, ne_eq, DV.tup.injEq, DV.int.injEq, DV.bool.injEq, DV.agg.injEq, DV.str.injEq, List.cons.injEq, dPeq, hh, hn]
  · have hh : hp[n]? = some ⟨.loc, 2, [[.nil, .bool false]]⟩ := hw
    simp only [d_reader_Writer_Ok, false_and, and_false, if_false, ite_true, ite_false, eI, eU, eB, eS, eBs, eL, eA, List.cons_append, List.take_succ_cons, List.drop_succ_cons, buildCells, List.take_zero, List.take_nil, ↓dwp_skip, ↓dwp_ops, ↓dwp_opsP,  ↓dwp_opsS, sepsD, sepB, hdl, Only_set, Only_same, Only_zero, Only_succ, ↓dwp_seq, ↓dwp_block, ↓dwp_exit, ↓dwp_ret, ↓dwp_cond, dvalX, DOp.kind, dops_nil, dops_none, dops_some, ↓then_normal, ↓then_exit, ↓then_ret, ↓inBlock_normal, ↓inBlock_exit, ↓inBlock_ret, put_some, put_none, ev_t, ev_c, endP_normal, endP_ret, endH_normal, endH_ret, dval, frameFrom, get_cons, Nk.get_nil, Nat.reduceEqDiff, Nat.reduceAdd, ↓reduceIte, if_true, Nat.succ_ne_self, true_and, and_true, Bool.not_true, beq_ft, beq_tf, bne_ft, bne_tf, bne_self_eq_false, Bool.not_false, dBin, dInt, dStr, dBeq, dUn, dLoad, cellsAt, retV, retL, DR.val, fzT, fzVs, fzV, fz1, DV.immB, List.map_cons, List.map_nil, Option.map_some, Option.map_none, Bool.false_eq_true, false_implies, forall_const, Bool.true_eq_false, reduceCtorEq, implies_true, Int.toNat_natCast, Nat.zero_ne_one, Nat.one_ne_zero, Nat.reduceSub, List.length_cons, List.length_nil, List.getD_cons_zero, List.getD_cons_succ, Int.reduceToNat, IntKind.bits, Int.reducePow, Nat.reducePow, Nat.lt_add_one, Nat.zero_lt_one, Int.reduceLE, Int.reduceLT, Nat.reduceLeDiff, Nat.reduceLT, Nat.zero_add,  decide_eq_true_eq, decide_eq_false_iff_not, Int.ofNat_lt, bsl_length, dCallP, viewVs, viewV, view1, viewL, noMemV, noMem, of_p, of_h, pOf_cons, hOf_cons, spec0_at, specB1_at, specB2_at, specB1_nil, specB2_nil1, specB2_nil2, specB2_nil3, spec1_at, List.all_cons, List.all_nil, Bool.and_true, Bool.and_false, Bool.true_and, Bool.false_and, not_true_eq_false, not_false_eq_true, List.getElem?_cons_zero, List.getElem?_cons_succ, List.set_cons_zero, List.set_set, List.set_cons_succ, elemsOf, dAppend, dStore, DV.one, alive, freezeAt, List.drop_zero, List.take_length, List.not_mem_nil, List.forall_mem_cons, List.nil_append, fzLL, fzL, bRow, bU, cellsOf, true_or, or_true, or_false, false_or, or_self, setFrom, DV.isU, beq_self_eq_true, List.length_set, List.length_append, List.length_replicate, decide_true, decide_false, gt_iff_lt, ge_iff_le, slice_lo, slice_hi, slice_both, List.getElem?_nil, Int.reduceBEq, Int.reduceBNe, Int.reduceEq, Int.reduceNe, Int.reduceAdd, Int.reduceSub, Int.reduceMul, Int.reduceNeg, Int.reduceTDiv, Int.reduceTMod, Int.reduceMod, Int.reduceDiv, ne_eq, DV.tup.injEq, DV.int.injEq, DV.bool.injEq, DV.agg.injEq, DV.str.injEq, List.cons.injEq, dPeq, hh, hn]
  · simp only [d_reader_Writer_Ok, false_and, and_false, if_false, ite_true, ite_false, eI, eU, eB, eS, eBs, eL, eA, List.cons_append, List.take_succ_cons, List.drop_succ_cons, buildCells, List.take_zero, List.take_nil, ↓dwp_skip, ↓dwp_ops, ↓dwp_opsP,  ↓dwp_opsS, sepsD, sepB, hdl, Only_set, Only_same, Only_zero, Only_succ, ↓dwp_seq, ↓dwp_block, ↓dwp_exit, ↓dwp_ret, ↓dwp_cond, dvalX, DOp.kind, dops_nil, dops_none, dops_some, ↓then_normal, ↓then_exit, ↓then_ret, ↓inBlock_normal, ↓inBlock_exit, ↓inBlock_ret, put_some, put_none, ev_t, ev_c, endP_normal, endP_ret, endH_normal, endH_ret, dval, frameFrom, get_cons, Nk.get_nil, Nat.reduceEqDiff, Nat.reduceAdd, ↓reduceIte, if_true, Nat.succ_ne_self, true_and, and_true, Bool.not_true, beq_ft, beq_tf, bne_ft, bne_tf, bne_self_eq_false, Bool.not_false, dBin, dInt, dStr, dBeq, dUn, dLoad, cellsAt, retV, retL, DR.val, fzT, fzVs, fzV, fz1, DV.immB, List.map_cons, List.map_nil, Option.map_some, Option.map_none, Bool.false_eq_true, false_implies, forall_const, Bool.true_eq_false, reduceCtorEq, implies_true, Int.toNat_natCast, Nat.zero_ne_one, Nat.one_ne_zero, Nat.reduceSub, List.length_cons, List.length_nil, List.getD_cons_zero, List.getD_cons_succ, Int.reduceToNat, IntKind.bits, Int.reducePow, Nat.reducePow, Nat.lt_add_one, Nat.zero_lt_one, Int.reduceLE, Int.reduceLT, Nat.reduceLeDiff, Nat.reduceLT, Nat.zero_add,  decide_eq_true_eq, decide_eq_false_iff_not, Int.ofNat_lt, bsl_length, dCallP, viewVs, viewV, view1, viewL, noMemV, noMem, of_p, of_h, pOf_cons, hOf_cons, spec0_at, specB1_at, specB2_at, specB1_nil, specB2_nil1, specB2_nil2, specB2_nil3, spec1_at, List.all_cons, List.all_nil, Bool.and_true, Bool.and_false, Bool.true_and, Bool.false_and, not_true_eq_false, not_false_eq_true, List.getElem?_cons_zero, List.getElem?_cons_succ, List.set_cons_zero, List.set_set, List.set_cons_succ, elemsOf, dAppend, dStore, DV.one, alive, freezeAt, List.drop_zero, List.take_length, List.not_mem_nil, List.forall_mem_cons, List.nil_append, fzLL, fzL, bRow, bU, cellsOf, true_or, or_true, or_false, false_or, or_self, setFrom, DV.isU, beq_self_eq_true, List.length_set, List.length_append, List.length_replicate, decide_true, decide_false, gt_iff_lt, ge_iff_le, slice_lo, slice_hi, slice_both, List.getElem?_nil, Int.reduceBEq, Int.reduceBNe, Int.reduceEq, Int.reduceNe, Int.reduceAdd, Int.reduceSub, Int.reduceMul, Int.reduceNeg, Int.reduceTDiv, Int.reduceTMod, Int.reduceMod, Int.reduceDiv, ne_eq, DV.tup.injEq, DV.int.injEq, DV.bool.injEq, DV.agg.injEq, DV.str.injEq, List.cons.injEq, dPeq]

noncomputable def s_lay : List DV → List DObj → Res := specW true (fun c : List UInt8 => [.sl (bsl c)]) (fW true fun b c => (b.length + c.length ≤ 4294967296, .tup [], some (b ++ c))) (fun _ => (True, .tup [])) (fun _ => (True, .tup []))
theorem injL_bs : InjL (fun c : List UInt8 => [DV.sl (bsl c)]) := fun x y h => by
  simp only [List.cons.injEq, DV.sl.injEq, and_true] at h
  exact bsl_inj h
theorem s_lay_at {hp : List DObj} {n m : Nat} {b : List UInt8} (hw : isW true hp n m (some b)) (c : List UInt8) : s_lay [.ptr n 1 0 0, .sl (bsl c)] hp = ⟨b.length + c.length ≤ 4294967296, .tup [], setW true hp n m (some (b ++ c))⟩ := specW_at injL_bs hw c
theorem s_lay_bad {hp : List DObj} {n : Nat} (hw : isW true hp n 0 none) (c : List UInt8) : s_lay [.ptr n 1 0 0, .sl (bsl c)] hp = ⟨True, .tup [], hp⟩ := specW_bad injL_bs hw c
theorem ok_lay : OkH Try.prog 41 s_lay := by
  refine OkH.mkW (ps := []) (hs := [(31, s_wOk)]) trivial ⟨ok_wOk, trivial⟩ m_reader_Writer_lay (fun _ => rfl) (fun n m hp b c hw hn hm h => ?_) (fun n hp c hw hn _ => ?_) (fun hp c h => ?_)
  · have o := s_wOk_at hw
    have hh := hw.1
    have h2 := hw.2.1
    have hne := hw.2.2
    have hl : b.length + c.length ≤ lenMax := h
    have g1 : (hp.set m ⟨.imm, 1, bsl b ++ bsl c⟩)[n]? = some ⟨.loc, 2, [[.own m b.length 0 b.length, .bool true]]⟩ := by rw [List.getElem?_set_ne (Ne.symm hne)]; exact hh
    have e : setW true hp n m (some (b ++ c)) = (hp.set m ⟨.imm, 1, bsl b ++ bsl c⟩).set n ⟨.loc, 2, [[.own m (b.length + c.length) 0 (b.length + c.length), .bool true]]⟩ := by simp only [setW, bsl_append, List.length_append]
    have r := bsl_rows (l := c)
    simp only [d_reader_Writer_lay, fW, false_and, and_false, if_false, ite_true, ite_false, eI, eU, eB, eS, eBs, eL, eA, List.cons_append, List.take_succ_cons, List.drop_succ_cons, buildCells, List.take_zero, List.take_nil, ↓dwp_skip, ↓dwp_ops, ↓dwp_opsP,  ↓dwp_opsS, sepsD, sepB, hdl, Only_set, Only_same, Only_zero, Only_succ, ↓dwp_seq, ↓dwp_block, ↓dwp_exit, ↓dwp_ret, ↓dwp_cond, dvalX, DOp.kind, dops_nil, dops_none, dops_some, ↓then_normal, ↓then_exit, ↓then_ret, ↓inBlock_normal, ↓inBlock_exit, ↓inBlock_ret, put_some, put_none, ev_t, ev_c, endP_normal, endP_ret, endH_normal, endH_ret, dval, frameFrom, get_cons, Nk.get_nil, Nat.reduceEqDiff, Nat.reduceAdd, ↓reduceIte, if_true, Nat.succ_ne_self, true_and, and_true, Bool.not_true, beq_ft, beq_tf, bne_ft, bne_tf, bne_self_eq_false, Bool.not_false, dBin, dInt, dStr, dBeq, dUn, dLoad, cellsAt, retV, retL, DR.val, fzT, fzVs, fzV, fz1, DV.immB, List.map_cons, List.map_nil, Option.map_some, Option.map_none, Bool.false_eq_true, false_implies, forall_const, Bool.true_eq_false, reduceCtorEq, implies_true, Int.toNat_natCast, Nat.zero_ne_one, Nat.one_ne_zero, Nat.reduceSub, List.length_cons, List.length_nil, List.getD_cons_zero, List.getD_cons_succ, Int.reduceToNat, IntKind.bits, Int.reducePow, Nat.reducePow, Nat.lt_add_one, Nat.zero_lt_one, Int.reduceLE, Int.reduceLT, Nat.reduceLeDiff, Nat.reduceLT, Nat.zero_add,  decide_eq_true_eq, decide_eq_false_iff_not, Int.ofNat_lt, bsl_length, dCallP, viewVs, viewV, view1, viewL, noMemV, noMem, of_p, of_h, pOf_cons, hOf_cons, spec0_at, specB1_at, specB2_at, specB1_nil, specB2_nil1, specB2_nil2, specB2_nil3, spec1_at, List.all_cons, List.all_nil, Bool.and_true, Bool.and_false, Bool.true_and, Bool.false_and, not_true_eq_false, not_false_eq_true, List.getElem?_cons_zero, List.getElem?_cons_succ, List.set_cons_zero, List.set_set, List.set_cons_succ, elemsOf, dAppend, dStore, DV.one, alive, freezeAt, List.drop_zero, List.take_length, List.not_mem_nil, List.forall_mem_cons, List.nil_append, fzLL, fzL, bRow, bU, cellsOf, true_or, or_true, or_false, false_or, or_self, setFrom, DV.isU, beq_self_eq_true, List.length_set, List.length_append, List.length_replicate, decide_true, decide_false, gt_iff_lt, ge_iff_le, slice_lo, slice_hi, slice_both, List.getElem?_nil, Int.reduceBEq, Int.reduceBNe, Int.reduceEq, Int.reduceNe, Int.reduceAdd, Int.reduceSub, Int.reduceMul, Int.reduceNeg, Int.reduceTDiv, Int.reduceTMod, Int.reduceMod, Int.reduceDiv, ne_eq, DV.tup.injEq, DV.int.injEq, DV.bool.injEq, DV.agg.injEq, DV.str.injEq, List.cons.injEq, o, hh, h2, hn, hm, hl, g1, e, r]
    exact r
  · have o := s_wOk_bad hw
    simp only [d_reader_Writer_lay, false_and, and_false, if_false, ite_true, ite_false, eI, eU, eB, eS, eBs, eL, eA, List.cons_append, List.take_succ_cons, List.drop_succ_cons, buildCells, List.take_zero, List.take_nil, ↓dwp_skip, ↓dwp_ops, ↓dwp_opsP,  ↓dwp_opsS, sepsD, sepB, hdl, Only_set, Only_same, Only_zero, Only_succ, ↓dwp_seq, ↓dwp_block, ↓dwp_exit, ↓dwp_ret, ↓dwp_cond, dvalX, DOp.kind, dops_nil, dops_none, dops_some, ↓then_normal, ↓then_exit, ↓then_ret, ↓inBlock_normal, ↓inBlock_exit, ↓inBlock_ret, put_some, put_none, ev_t, ev_c, endP_normal, endP_ret, endH_normal, endH_ret, dval, frameFrom, get_cons, Nk.get_nil, Nat.reduceEqDiff, Nat.reduceAdd, ↓reduceIte, if_true, Nat.succ_ne_self, true_and, and_true, Bool.not_true, beq_ft, beq_tf, bne_ft, bne_tf, bne_self_eq_false, Bool.not_false, dBin, dInt, dStr, dBeq, dUn, dLoad, cellsAt, retV, retL, DR.val, fzT, fzVs, fzV, fz1, DV.immB, List.map_cons, List.map_nil, Option.map_some, Option.map_none, Bool.false_eq_true, false_implies, forall_const, Bool.true_eq_false, reduceCtorEq, implies_true, Int.toNat_natCast, Nat.zero_ne_one, Nat.one_ne_zero, Nat.reduceSub, List.length_cons, List.length_nil, List.getD_cons_zero, List.getD_cons_succ, Int.reduceToNat, IntKind.bits, Int.reducePow, Nat.reducePow, Nat.lt_add_one, Nat.zero_lt_one, Int.reduceLE, Int.reduceLT, Nat.reduceLeDiff, Nat.reduceLT, Nat.zero_add,  decide_eq_true_eq, decide_eq_false_iff_not, Int.ofNat_lt, bsl_length, dCallP, viewVs, viewV, view1, viewL, noMemV, noMem, of_p, of_h, pOf_cons, hOf_cons, spec0_at, specB1_at, specB2_at, specB1_nil, specB2_nil1, specB2_nil2, specB2_nil3, spec1_at, List.all_cons, List.all_nil, Bool.and_true, Bool.and_false, Bool.true_and, Bool.false_and, not_true_eq_false, not_false_eq_true, List.getElem?_cons_zero, List.getElem?_cons_succ, List.set_cons_zero, List.set_set, List.set_cons_succ, elemsOf, dAppend, dStore, DV.one, alive, freezeAt, List.drop_zero, List.take_length, List.not_mem_nil, List.forall_mem_cons, List.nil_append, fzLL, fzL, bRow, bU, cellsOf, true_or, or_true, or_false, false_or, or_self, setFrom, DV.isU, beq_self_eq_true, List.length_set, List.length_append, List.length_replicate, decide_true, decide_false, gt_iff_lt, ge_iff_le, slice_lo, slice_hi, slice_both, List.getElem?_nil, Int.reduceBEq, Int.reduceBNe, Int.reduceEq, Int.reduceNe, Int.reduceAdd, Int.reduceSub, Int.reduceMul, Int.reduceNeg, Int.reduceTDiv, Int.reduceTMod, Int.reduceMod, Int.reduceDiv, ne_eq, DV.tup.injEq, DV.int.injEq, DV.bool.injEq, DV.agg.injEq, DV.str.injEq, List.cons.injEq, o]
  · simp only [d_reader_Writer_lay, false_and, and_false, if_false, ite_true, ite_false, eI, eU, eB, eS, eBs, eL, eA, List.cons_append, List.take_succ_cons, List.drop_succ_cons, buildCells, List.take_zero, List.take_nil, ↓dwp_skip, ↓dwp_ops, ↓dwp_opsP,  ↓dwp_opsS, sepsD, sepB, hdl, Only_set, Only_same, Only_zero, Only_succ, ↓dwp_seq, ↓dwp_block, ↓dwp_exit, ↓dwp_ret, ↓dwp_cond, dvalX, DOp.kind, dops_nil, dops_none, dops_some, ↓then_normal, ↓then_exit, ↓then_ret, ↓inBlock_normal, ↓inBlock_exit, ↓inBlock_ret, put_some, put_none, ev_t, ev_c, endP_normal, endP_ret, endH_normal, endH_ret, dval, frameFrom, get_cons, Nk.get_nil, Nat.reduceEqDiff, Nat.reduceAdd, ↓reduceIte, if_true, Nat.succ_ne_self, true_and, and_true, Bool.not_true, beq_ft, beq_tf, bne_ft, bne_tf, bne_self_eq_false, Bool.not_false, dBin, dInt, dStr, dBeq, dUn, dLoad, cellsAt, retV, retL, DR.val, fzT, fzVs, fzV, fz1, DV.immB, List.map_cons, List.map_nil, Option.map_some, Option.map_none, Bool.false_eq_true, false_implies, forall_const, Bool.true_eq_false, reduceCtorEq, implies_true, Int.toNat_natCast, Nat.zero_ne_one, Nat.one_ne_zero, Nat.reduceSub, List.length_cons, List.length_nil, List.getD_cons_zero, List.getD_cons_succ, Int.reduceToNat, IntKind.bits, Int.reducePow, Nat.reducePow, Nat.lt_add_one, Nat.zero_lt_one, Int.reduceLE, Int.reduceLT, Nat.reduceLeDiff, Nat.reduceLT, Nat.zero_add,  decide_eq_true_eq, decide_eq_false_iff_not, Int.ofNat_lt, bsl_length, dCallP, viewVs, viewV, view1, viewL, noMemV, noMem, of_p, of_h, pOf_cons, hOf_cons, spec0_at, specB1_at, specB2_at, specB1_nil, specB2_nil1, specB2_nil2, specB2_nil3, spec1_at, List.all_cons, List.all_nil, Bool.and_true, Bool.and_false, Bool.true_and, Bool.false_and, not_true_eq_false, not_false_eq_true, List.getElem?_cons_zero, List.getElem?_cons_succ, List.set_cons_zero, List.set_set, List.set_cons_succ, elemsOf, dAppend, dStore, DV.one, alive, freezeAt, List.drop_zero, List.take_length, List.not_mem_nil, List.forall_mem_cons, List.nil_append, fzLL, fzL, bRow, bU, cellsOf, true_or, or_true, or_false, false_or, or_self, setFrom, DV.isU, beq_self_eq_true, List.length_set, List.length_append, List.length_replicate, decide_true, decide_false, gt_iff_lt, ge_iff_le, slice_lo, slice_hi, slice_both, List.getElem?_nil, Int.reduceBEq, Int.reduceBNe, Int.reduceEq, Int.reduceNe, Int.reduceAdd, Int.reduceSub, Int.reduceMul, Int.reduceNeg, Int.reduceTDiv, Int.reduceTMod, Int.reduceMod, Int.reduceDiv, ne_eq, DV.tup.injEq, DV.int.injEq, DV.bool.injEq, DV.agg.injEq, DV.str.injEq, List.cons.injEq, s_wOk_nil]

end Go.Proofs.Ytpohoagllmocnaa
