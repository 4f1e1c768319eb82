/- Writers: two objects, the struct and the bytes; what each function tells, and makes of them. -/
import Derived.Test.YtfaailjhioobhaaGreatRdLive
set_option linter.all false
set_option maxRecDepth 20000
namespace Go.Proofs.YtfaailjhioobhaaGreat
open Go.Nk

/-- What was written; nothing: it failed. -/
abbrev WS := Option (List UInt8)

/-- A writer's struct at n, its bytes at m; g: what the second field says of a writer that is well. -/
def isW (g : Bool) (hp : List DObj) (n m : Nat) : WS → Prop
  | some b => hp[n]? = some ⟨.loc, 2, [[.own m b.length 0 b.length, .bool g]]⟩ ∧ hp[m]? = some ⟨.imm, 1, bsl b⟩ ∧ n ≠ m
  | none => hp[n]? = some ⟨.loc, 2, [[.nil, .bool (!g)]]⟩
def setW (g : Bool) (hp : List DObj) (n m : Nat) : WS → List DObj
  | some b => (hp.set m ⟨.imm, 1, bsl b⟩).set n ⟨.loc, 2, [[.own m b.length 0 b.length, .bool g]]⟩
  | none => hp.set n ⟨.loc, 2, [[.nil, .bool (!g)]]⟩

theorem isW_lt {g : Bool} {hp : List DObj} {n m : Nat} {s : WS} (h : isW g hp n m s) : n < hp.length := by
  cases s with
  | some b => exact (List.getElem?_eq_some_iff.1 h.1).1
  | none => exact (List.getElem?_eq_some_iff.1 h).1
theorem isW_lt2 {g : Bool} {hp : List DObj} {n m : Nat} {b : List UInt8} (h : isW g hp n m (some b)) : m < hp.length := (List.getElem?_eq_some_iff.1 h.2.1).1
theorem set_w {g : Bool} {hp : List DObj} {n m : Nat} {s : WS} (h : isW g hp n m s) : setW g hp n m s = hp := by
  cases s with
  | some b =>
    show (hp.set m _).set n _ = hp
    rw [set_same h.2.1, set_same h.1]
  | none => exact set_same h

/-- What is asked, told, and written then. -/
def fW {α : Type} (g : Bool) (f : List UInt8 → α → Prop × DV × WS) : List DObj → Nat → Nat → List UInt8 → α → Res := fun hp n m b a => ⟨(f b a).1, (f b a).2.1, setW g hp n m (f b a).2.2⟩

open Classical in
noncomputable def specW {α : Type} (g : Bool) (args : α → List DV) (f : List DObj → Nat → Nat → List UInt8 → α → Res) (d : α → Prop × DV) (z : α → Prop × DV) : List DV → List DObj → Res := fun a hp =>
  if h : ∃ x : Nat × Nat × List UInt8 × α, a = .ptr x.1 1 0 0 :: args x.2.2.2 ∧ isW g hp x.1 x.2.1 (some x.2.2.1) then
    f hp h.choose.1 h.choose.2.1 h.choose.2.2.1 h.choose.2.2.2
  else if h : ∃ x : Nat × α, a = .ptr x.1 1 0 0 :: args x.2 ∧ isW g hp x.1 0 none then ⟨(d h.choose.2).1, (d h.choose.2).2, hp⟩
  else if h : ∃ x : α, a = .nilp :: args x then ⟨(z h.choose).1, (z h.choose).2, hp⟩
  else no

section
variable {α : Type} {g : Bool} {args : α → List DV} {f : List DObj → Nat → Nat → List UInt8 → α → Res} {d : α → Prop × DV} {z : α → Prop × DV}
theorem specW_at (ha : InjL args) {hp : List DObj} {n m : Nat} {b : List UInt8} (hw : isW g hp n m (some b)) (a : α) :
    specW g args f d z (.ptr n 1 0 0 :: args a) hp = f hp n m b a := by
  unfold specW
  have hx : ∃ x : Nat × Nat × List UInt8 × α, .ptr n 1 0 0 :: args a = .ptr x.1 1 0 0 :: args x.2.2.2 ∧ isW g hp x.1 x.2.1 (some x.2.2.1) := ⟨(n, m, b, a), rfl, hw⟩
  rw [dif_pos hx]
  have hy := hx.choose_spec
  generalize hx.choose = x at hy ⊢
  obtain ⟨n', m', b', a'⟩ := x
  obtain ⟨h1, h2⟩ := hy
  dsimp only at *
  have h3 := List.cons.inj h1
  injection h3.1 with h4
  subst h4
  have h5 := ha _ _ h3.2
  subst h5
  have h6 := hw.1.symm.trans h2.1
  simp only [Option.some.injEq, DObj.mk.injEq, List.cons.injEq, DV.own.injEq, and_true, true_and] at h6
  obtain ⟨rfl, _⟩ := h6
  have h7 := hw.2.1.symm.trans h2.2.1
  simp only [Option.some.injEq, DObj.mk.injEq, true_and] at h7
  rw [bsl_inj h7]
theorem specW_bad (ha : InjL args) {hp : List DObj} {n : Nat} (hw : isW g hp n 0 none) (a : α) : specW g args f d z (.ptr n 1 0 0 :: args a) hp = ⟨(d a).1, (d a).2, hp⟩ := by
  unfold specW
  have hn : ¬ ∃ x : Nat × Nat × List UInt8 × α, .ptr n 1 0 0 :: args a = .ptr x.1 1 0 0 :: args x.2.2.2 ∧ isW g hp x.1 x.2.1 (some x.2.2.1) := by
    rintro ⟨⟨n', m', b', a'⟩, h1, h2⟩
    injection (List.cons.inj h1).1 with h4
    dsimp only at h4 h2
    subst h4
    have h6 := (show hp[n]? = _ from hw).symm.trans h2.1
    simp at h6
  rw [dif_neg hn]
  have hx : ∃ x : Nat × α, .ptr n 1 0 0 :: args a = .ptr x.1 1 0 0 :: args x.2 ∧ isW g hp x.1 0 none := ⟨(n, a), rfl, hw⟩
  rw [dif_pos hx]
  have hy := hx.choose_spec
  generalize hx.choose = x at hy ⊢
  have h5 := ha _ _ (List.cons.inj hy.1).2
  rw [← h5]
theorem specW_nil (ha : InjL args) (hp : List DObj) (a : α) : specW g args f d z (.nilp :: args a) hp = ⟨(z a).1, (z a).2, hp⟩ := by
  unfold specW
  have hn : ¬ ∃ x : Nat × Nat × List UInt8 × α, .nilp :: args a = .ptr x.1 1 0 0 :: args x.2.2.2 ∧ isW g hp x.1 x.2.1 (some x.2.2.1) := by
    rintro ⟨x, h1, _⟩; cases (List.cons.inj h1).1
  have hn2 : ¬ ∃ x : Nat × α, .nilp :: args a = .ptr x.1 1 0 0 :: args x.2 ∧ isW g hp x.1 0 none := by
    rintro ⟨x, h1, _⟩; cases (List.cons.inj h1).1
  rw [dif_neg hn, dif_neg hn2]
  have hx : ∃ x : α, .nilp :: args a = .nilp :: args x := ⟨a, rfl⟩
  rw [dif_pos hx]
  have hy := hx.choose_spec
  generalize hx.choose = x at hy ⊢
  have h5 := ha _ _ (List.cons.inj hy).2
  rw [← h5]
theorem OkH.mkW {P : Program} {ps hs} {fn : FuncId} {df : DFun} {N : Nat} (h1 : AllP P ps) (h2 : AllH P hs) (hm : mFun P fn N df = true) (hN : ∀ a, (args a).length + 1 = N)
    (k : ∀ n m hp b a, isW g hp n m (some b) → n < hp.length → m < hp.length → (f hp n m b a).pre → dwp (Orc.of ps hs) hp.length df.code (EndH df.res (f hp n m b a).val (f hp n m b a).hp) ⟨(0, .ptr n 1 0 0) :: frameFrom 1 (args a), hp⟩)
    (kb : ∀ n hp a, isW g hp n 0 none → n < hp.length → (d a).1 → dwp (Orc.of ps hs) hp.length df.code (EndH df.res (d a).2 hp) ⟨(0, .ptr n 1 0 0) :: frameFrom 1 (args a), hp⟩)
    (kn : ∀ hp a, (z a).1 → dwp (Orc.of ps hs) hp.length df.code (EndH df.res (z a).2 hp) ⟨(0, .nilp) :: frameFrom 1 (args a), hp⟩) : OkH P fn (specW g args f d z) := by
  refine OkH.mk h1 h2 hm fun a hp hpre => ?_
  unfold specW at hpre ⊢
  split at hpre
  · rename_i h
    rw [dif_pos h]
    have hx := h.choose_spec
    generalize h.choose = x at hx hpre ⊢
    obtain ⟨rfl, hx⟩ := hx
    exact ⟨hN _, k _ _ _ _ _ hx (isW_lt hx) (isW_lt2 hx) hpre⟩
  · rename_i h
    rw [dif_neg h]
    split at hpre
    · rename_i h'
      rw [dif_pos h']
      have hx := h'.choose_spec
      generalize h'.choose = x at hx hpre ⊢
      obtain ⟨rfl, hx⟩ := hx
      exact ⟨hN _, kb _ _ _ hx (isW_lt hx) hpre⟩
    · rename_i h'
      rw [dif_neg h']
      split at hpre
      · rename_i h''
        rw [dif_pos h'']
        have hx := h''.choose_spec
        generalize h''.choose = x at hx hpre ⊢
        subst hx
        exact ⟨hN _, kn _ _ hpre⟩
      · exact hpre.elim
end

/-! Ok, Bytes, lay -/
noncomputable def s_wOk : List DV → List DObj → Res := specW true (fun _ : Unit => []) (fW true fun b _ => (True, .bool true, some b)) (fun _ => (True, .bool false)) (fun _ => (True, .bool false))
theorem s_wOk_at {hp : List DObj} {n m : Nat} {b : List UInt8} (hw : isW true hp n m (some b)) : s_wOk [.ptr n 1 0 0] hp = ⟨True, .bool true, hp⟩ := by
  refine (specW_at (injL_unit _) hw ()).trans ?_
  unfold fW
  rw [set_w hw]
theorem s_wOk_bad {hp : List DObj} {n : Nat} (hw : isW true hp n 0 none) : s_wOk [.ptr n 1 0 0] hp = ⟨True, .bool false, hp⟩ := specW_bad (injL_unit _) hw ()
theorem s_wOk_nil (hp : List DObj) : s_wOk [.nilp] hp = ⟨True, .bool false, hp⟩ := specW_nil (injL_unit _) hp ()
theorem ok_wOk : OkH Tryz.prog 57 s_wOk := by
  refine OkH.mkW (ps := []) (hs := []) trivial trivial m_reader_Writer_Ok (fun _ => rfl) (fun n m hp b a hw hn hm h => ?_) (fun n hp a hw hn _ => ?_) (fun hp a h => ?_)
  · have hh := hw.1
    unfold fW
    rw [set_w hw]
    simp only [↓sqP, sqT, d_reader_Writer_Ok, List.drop_succ_cons, dvalX, dops_some, dval, frameFrom, Nat.reduceEqDiff, ↓reduceIte, dLoad, cellsAt, retV, DR.val, reduceCtorEq, List.length_cons, List.length_nil, List.getD_cons_zero, alive, List.drop_zero, ne_eq, hh]
  · have hh : hp[n]? = some ⟨.loc, 2, [[.nil, .bool false]]⟩ := hw
    simp only [↓sqP, sqT, d_reader_Writer_Ok, List.drop_succ_cons, dvalX, dops_some, dval, frameFrom, Nat.reduceEqDiff, ↓reduceIte, dLoad, cellsAt, retV, DR.val, reduceCtorEq, List.length_cons, List.length_nil, List.getD_cons_zero, alive, List.drop_zero, ne_eq, hh]
  · simp only [↓sqP, sqT, d_reader_Writer_Ok, dvalX, dops_some, dval, frameFrom, Nat.reduceEqDiff, ↓reduceIte, retV, DR.val, Bool.false_eq_true, reduceCtorEq, dPeq]

noncomputable def s_lay : List DV → List DObj → Res := specW true (fun c : List UInt8 => [.sl (bsl c)]) (fW true fun b c => (b.length + c.length ≤ 4294967296, .tup [], some (b ++ c))) (fun _ => (True, .tup [])) (fun _ => (True, .tup []))
theorem injL_bs : InjL (fun c : List UInt8 => [DV.sl (bsl c)]) := fun x y h => by
  simp only [List.cons.injEq, DV.sl.injEq, and_true] at h
  exact bsl_inj h
theorem s_lay_at {hp : List DObj} {n m : Nat} {b : List UInt8} (hw : isW true hp n m (some b)) (c : List UInt8) : s_lay [.ptr n 1 0 0, .sl (bsl c)] hp = ⟨b.length + c.length ≤ 4294967296, .tup [], setW true hp n m (some (b ++ c))⟩ := specW_at injL_bs hw c
theorem s_lay_bad {hp : List DObj} {n : Nat} (hw : isW true hp n 0 none) (c : List UInt8) : s_lay [.ptr n 1 0 0, .sl (bsl c)] hp = ⟨True, .tup [], hp⟩ := specW_bad injL_bs hw c
theorem ok_lay : OkH Tryz.prog 59 s_lay := by
  refine OkH.mkW (ps := []) (hs := [(57, s_wOk)]) trivial ⟨ok_wOk, trivial⟩ m_reader_Writer_lay (fun _ => rfl) (fun n m hp b c hw hn hm h => ?_) (fun n hp c hw hn _ => ?_) (fun hp c h => ?_)
  · have o := s_wOk_at hw
    have hh := hw.1
    have h2 := hw.2.1
    have hne := hw.2.2
    have hl : b.length + c.length ≤ lenMax := h
    have g1 : (hp.set m ⟨.imm, 1, bsl b ++ bsl c⟩)[n]? = some ⟨.loc, 2, [[.own m b.length 0 b.length, .bool true]]⟩ := by rw [List.getElem?_set_ne (Ne.symm hne)]; exact hh
    have e : setW true hp n m (some (b ++ c)) = (hp.set m ⟨.imm, 1, bsl b ++ bsl c⟩).set n ⟨.loc, 2, [[.own m (b.length + c.length) 0 (b.length + c.length), .bool true]]⟩ := by simp only [setW, bsl_append, List.length_append]
    have r := bsl_rows (l := c)
    simp only [↓sqP, sqT, d_reader_Writer_lay, fW, ↓dwp_cond, dvalX, dval, frameFrom, Nat.reduceEqDiff, Nat.reduceAdd, ↓reduceIte, dLoad, cellsAt, retV, retL, List.map_cons, List.map_nil, forall_const, reduceCtorEq, List.length_cons, List.length_nil, List.getD_cons_zero, Nat.reduceLeDiff, Nat.reduceLT, List.set_cons_zero, elemsOf, dAppend, dStore, DV.one, alive, List.drop_zero, List.not_mem_nil, List.forall_mem_cons, cellsOf, setFrom, ne_eq, o, hh, h2, hl, g1, e]
    exact r
  · have o := s_wOk_bad hw
    simp only [↓sqP, sqT, d_reader_Writer_lay, ↓dwp_cond, dvalX, dval, frameFrom, ↓reduceIte, retV, retL, List.map_cons, List.map_nil, Bool.false_eq_true, o]
  · simp only [↓sqP, sqT, d_reader_Writer_lay, ↓dwp_cond, dvalX, dval, frameFrom, ↓reduceIte, retV, retL, List.map_cons, List.map_nil, Bool.false_eq_true, s_wOk_nil]

end Go.Proofs.YtfaailjhioobhaaGreat

/- Writers of the program: Bytes, Num, Int, Text, Part. -/
set_option linter.all false
set_option maxRecDepth 20000
namespace Go.Proofs.YtfaailjhioobhaaGreat
open Go.Nk

theorem getLast' (hp : List DObj) (a : DObj) : (hp ++ [a])[hp.length]? = some a := by simp
theorem setLast' (hp : List DObj) (a b : DObj) : (hp ++ [a]).set hp.length b = hp ++ [b] := by
  rw [List.set_append_right _ _ (Nat.le_refl _)]; simp

/-- A copy of own bytes, that are some. -/
noncomputable def s_CloneB : List DV → List DObj → Res := fun a hp =>
  ⟨∃ (m : Nat) (b : List UInt8), a = [.own m b.length 0 b.length] ∧ hp[m]? = some ⟨.imm, 1, bsl b⟩ ∧ b ≠ [] ∧ b.length ≤ 4294967296,
    match a with | [.own _ n _ _] => .own hp.length n 0 n | _ => .undef, match a with | [.own m _ _ _] => hp ++ [⟨.imm, 1, (hp.getD m default).es⟩] | _ => []⟩
theorem s_CloneB_at {hp : List DObj} {m : Nat} {b : List UInt8} (h : hp[m]? = some ⟨.imm, 1, bsl b⟩) (h1 : b ≠ []) (h2 : b.length ≤ 4294967296) :
    s_CloneB [.own m b.length 0 b.length] hp = ⟨True, .own hp.length b.length 0 b.length, hp ++ [⟨.imm, 1, bsl b⟩]⟩ := by
  unfold s_CloneB
  simp only [List.getD, h, Option.getD_some, Res.mk.injEq, and_true]
  exact eq_true ⟨m, b, rfl, h, h1, h2⟩
theorem ok_CloneB : OkH Tryz.prog 64 s_CloneB := by
  refine OkH.mk (ps := []) (hs := []) (n := 1) trivial trivial m_slices_Clone_byte_byte fun a hp h => ?_
  obtain ⟨m, b, rfl, hm, hne, hl⟩ := h
  refine ⟨rfl, ?_⟩
  have r := bsl_rows (l := b)
  have hb : b.length ≤ lenMax := hl
  have hpos : 0 < b.length := List.length_pos_iff.2 hne
  have hml : m < hp.length := (List.getElem?_eq_some_iff.1 hm).1
  have hm1 : (hp ++ [⟨.imm, 1, []⟩])[m]? = some ⟨.imm, 1, bsl b⟩ := by rw [List.getElem?_append_left hml]; exact hm
  have hd : (hp.getD m default).es = bsl b := by simp [List.getD, hm]
  have tk : (bsl b).take b.length = bsl b := List.take_of_length_le (by simp [bsl_length])
  simp only [↓sqP, sqT, d_slices_Clone_byte_byte, ↓dwp_cond, dvalX, dval, frameFrom, Nat.reduceEqDiff, ↓reduceIte, retV, DR.val, List.map_nil, Bool.false_eq_true, forall_const, reduceCtorEq, List.length_cons, List.length_nil, List.all_nil, elemsOf, dAppend, alive, List.drop_zero, List.not_mem_nil, List.nil_append, fzLL, ne_eq, List.cons.injEq, s_CloneB, hm, hm1, hpos, hd, tk, getLast', setLast', hb]
  exact ⟨Nat.le_refl _, r⟩

noncomputable def s_wBytes : List DV → List DObj → Res := specW true (fun _ : Unit => []) (fun hp _ _ b _ => ⟨b ≠ [] ∧ b.length ≤ 4294967296, .own hp.length b.length 0 b.length, hp ++ [⟨.imm, 1, bsl b⟩]⟩) (fun _ => (True, .nil)) (fun _ => (True, .nil))
theorem s_wBytes_at {hp : List DObj} {n m : Nat} {b : List UInt8} (hw : isW true hp n m (some b)) : s_wBytes [.ptr n 1 0 0] hp = ⟨b ≠ [] ∧ b.length ≤ 4294967296, .own hp.length b.length 0 b.length, hp ++ [⟨.imm, 1, bsl b⟩]⟩ := specW_at (injL_unit _) hw ()
theorem s_wBytes_bad {hp : List DObj} {n : Nat} (hw : isW true hp n 0 none) : s_wBytes [.ptr n 1 0 0] hp = ⟨True, .nil, hp⟩ := specW_bad (injL_unit _) hw ()
theorem ok_wBytes : OkH Tryz.prog 24 s_wBytes := by
  refine OkH.mkW (ps := []) (hs := [(57, s_wOk), (64, s_CloneB)]) trivial ⟨ok_wOk, ok_CloneB, trivial⟩ m_reader_Writer_Bytes (fun _ => rfl) (fun n m hp b a hw hn hm h => ?_) (fun n hp a hw hn _ => ?_) (fun hp a h => ?_)
  · have o := s_wOk_at hw
    have c := s_CloneB_at hw.2.1 h.1 h.2
    have hh := hw.1
    simp only [↓sqP, sqT, d_reader_Writer_Bytes, ↓dwp_cond, dvalX, dval, frameFrom, Nat.reduceEqDiff, Nat.reduceAdd, ↓reduceIte, dUn, dLoad, cellsAt, retV, DR.val, List.map_cons, List.map_nil, Bool.false_eq_true, reduceCtorEq, List.length_cons, List.length_nil, List.getD_cons_zero, Nat.reduceLT, alive, List.drop_zero, ne_eq, o, c, hh]
  · have o := s_wOk_bad hw
    simp only [↓sqP, sqT, d_reader_Writer_Bytes, ↓dwp_cond, dvalX, dval, frameFrom, ↓reduceIte, dUn, retV, DR.val, List.map_cons, List.map_nil, reduceCtorEq, o]
  · simp only [↓sqP, sqT, d_reader_Writer_Bytes, ↓dwp_cond, dvalX, dval, frameFrom, ↓reduceIte, dUn, retV, DR.val, List.map_cons, List.map_nil, reduceCtorEq, s_wOk_nil]

/-! Num -/
def wNum (b : List UInt8) (k z : Int) : WS := if z < 1 ∨ 4 < z ∨ k < 0 ∨ ((256 ^ z.toNat : Nat) : Int) ≤ k then none else some (b ++ putL k.toNat z.toNat)
noncomputable def s_wNum : List DV → List DObj → Res := specW true (fun x : Int × Int => [.int .i64 x.1, .int .i64 x.2]) (fW true fun b x => (b.length + 4 ≤ 4294967296 ∧ x.1 < 9223372036854775808, .tup [], wNum b x.1 x.2)) (fun _ => (True, .tup [])) (fun _ => (True, .tup []))
theorem injL_2i : InjL (fun x : Int × Int => [DV.int .i64 x.1, DV.int .i64 x.2]) := by
  rintro ⟨a, b⟩ ⟨a', b'⟩ h
  simp only [List.cons.injEq, DV.int.injEq, true_and, and_true] at h
  obtain ⟨rfl, rfl⟩ := h
  rfl
theorem s_wNum_at {hp : List DObj} {n m : Nat} {b : List UInt8} (hw : isW true hp n m (some b)) (k z : Int) : s_wNum [.ptr n 1 0 0, .int .i64 k, .int .i64 z] hp = ⟨b.length + 4 ≤ 4294967296 ∧ k < 9223372036854775808, .tup [], setW true hp n m (wNum b k z)⟩ := specW_at injL_2i hw (k, z)
theorem s_wNum_bad {hp : List DObj} {n : Nat} (hw : isW true hp n 0 none) (k z : Int) : s_wNum [.ptr n 1 0 0, .int .i64 k, .int .i64 z] hp = ⟨True, .tup [], hp⟩ := specW_bad injL_2i hw (k, z)
theorem shr_zero {k : Int} {z : Nat} (h0 : 0 ≤ k) (hz : z ≤ 4) : (k.fdiv (2 ^ (min (8 * (z : Int)).toNat 64)) != 0) = decide (((256 ^ z : Nat) : Int) ≤ k) := by
  have h1 : min (8 * (z : Int)).toNat 64 = 8 * z := by omega
  have h2 : ((2 : Int) ^ (8 * z)) = ((256 ^ z : Nat) : Int) := by rw [Int.pow_mul]; norm_cast
  rw [h1, h2, Int.fdiv_eq_ediv_of_nonneg _ (Int.natCast_nonneg _)]
  have hpos : (0 : Int) < ((256 ^ z : Nat) : Int) := by have : 0 < 256 ^ z := Nat.pos_of_ne_zero (by simp); omega
  generalize ((256 ^ z : Nat) : Int) = d at *
  by_cases hd : d ≤ k
  · have h3 : 1 ≤ k / d := Int.le_ediv_of_mul_le hpos (by omega)
    have : k / d ≠ 0 := by omega
    simp [hd, this]
  · have : k / d = 0 := Int.ediv_eq_zero_of_lt h0 (by omega)
    simp [hd, this]
theorem pow_le {z : Nat} (h : z ≤ 4) : 256 ^ z ≤ 4294967296 := by
  have : z = 0 ∨ z = 1 ∨ z = 2 ∨ z = 3 ∨ z = 4 := by omega
  rcases this with rfl | rfl | rfl | rfl | rfl <;> decide

theorem ok_wNum : OkH Tryz.prog 20 s_wNum := by
  refine OkH.mkW (ps := [(60, sPut)]) (hs := [(57, s_wOk), (58, s_fail), (59, s_lay)]) ⟨ok_octet_Put, trivial⟩ ⟨ok_wOk, ok_reader_fail, ok_lay, trivial⟩ m_reader_Writer_Num (fun _ => rfl) (fun n m hp b x hw hn hm h => ?_) (fun n hp x hw hn _ => ?_) (fun hp x h => ?_)
  · obtain ⟨k, z⟩ := x
    obtain ⟨hb, hk⟩ := h
    simp only at hb hk
    have o := s_wOk_at hw
    have hh := hw.1
    have hf := s_fail_at hh
    have en : setW true hp n m none = hp.set n ⟨.loc, 2, [[.nil, .bool false]]⟩ := rfl
    by_cases h1 : z < 1
    · have d1 : decide (z < 1) = true := by simp [h1]
      have e : wNum b k z = none := by unfold wNum; rw [if_pos (.inl h1)]
      simp only [↓sqP, sqT, d_reader_Writer_Num, fW, frameFrom, ↓dwp_cond, dvalX, dops_some, dval, frameFrom, Nat.reduceEqDiff, Nat.reduceAdd, ↓reduceIte, dBin, dInt, dUn, retV, retL, List.map_cons, List.map_nil, Bool.false_eq_true, reduceCtorEq, List.length_cons, List.length_nil, Nat.reduceLeDiff, alive, ne_eq, o, hh, hf, d1, e, en]
    have d1 : decide (z < 1) = false := by simp [h1]
    by_cases h2 : 4 < z
    · have d2 : decide (4 < z) = true := by simp [h2]
      have e : wNum b k z = none := by unfold wNum; rw [if_pos (.inr (.inl h2))]
      simp only [↓sqP, sqT, d_reader_Writer_Num, fW, frameFrom, ↓dwp_cond, dvalX, dops_some, dval, frameFrom, Nat.reduceEqDiff, Nat.reduceAdd, ↓reduceIte, dBin, dInt, dUn, retV, retL, List.map_cons, List.map_nil, Bool.false_eq_true, reduceCtorEq, List.length_cons, List.length_nil, Nat.reduceLeDiff, alive, gt_iff_lt, ne_eq, o, hh, hf, d1, d2, e, en]
    have d2 : decide (4 < z) = false := by simp [h2]
    by_cases h3 : k < 0
    · have d3 : decide (k < 0) = true := by simp [h3]
      have e : wNum b k z = none := by unfold wNum; rw [if_pos (.inr (.inr (.inl h3)))]
      simp only [↓sqP, sqT, d_reader_Writer_Num, fW, frameFrom, ↓dwp_cond, dvalX, dops_some, dval, frameFrom, Nat.reduceEqDiff, Nat.reduceAdd, ↓reduceIte, dBin, dInt, dUn, retV, retL, List.map_cons, List.map_nil, Bool.false_eq_true, reduceCtorEq, List.length_cons, List.length_nil, Nat.reduceLeDiff, alive, gt_iff_lt, ne_eq, o, hh, hf, d1, d2, d3, e, en]
    have d3 : decide (k < 0) = false := by simp [h3]
    obtain ⟨z', rfl⟩ : ∃ z' : Nat, z = z' := ⟨z.toNat, by omega⟩
    have hz4 : z' ≤ 4 := by omega
    have hsh := shr_zero (k := k) (z := z') (by omega) hz4
    have w8 : IntKind.i64.wrap (8 * (z' : Int)) = 8 * (z' : Int) := wrap_i64_id (by omega)
    have hge : (0 : Int) ≤ 8 * (z' : Int) := by omega
    by_cases h4 : ((256 ^ z' : Nat) : Int) ≤ k
    · have e : wNum b k z' = none := by unfold wNum; rw [if_pos (.inr (.inr (.inr (by simpa using h4))))]
      rw [decide_eq_true h4] at hsh
      simp only [↓sqP, sqT, d_reader_Writer_Num, fW, frameFrom, ↓dwp_cond, dvalX, dops_some, dval, frameFrom, Nat.reduceEqDiff, Nat.reduceAdd, ↓reduceIte, dBin, dInt, dUn, retV, retL, List.map_cons, List.map_nil, Bool.false_eq_true, reduceCtorEq, List.length_cons, List.length_nil, IntKind.bits, Nat.reduceLeDiff, alive, gt_iff_lt, ne_eq, o, hh, hf, d1, d2, d3, w8, hge, hsh, e, en]
    · rw [decide_eq_false h4] at hsh
      have hp4 := pow_le hz4
      have e : wNum b k z' = some (b ++ putL k.toNat z') := by
        unfold wNum
        rw [if_neg (by
          rintro (h | h | h | h)
          · exact h1 h
          · exact h2 h
          · exact h3 h
          · exact h4 (by simpa using h))]
        simp
      have wk : IntKind.u64.wrap k = k := wrap_u64_id (by omega)
      have pp : sPut [.int .u64 k, .int .i64 z'] = (True, .sl (bsl (putL k.toNat z'))) := by
        have hz1 : ¬ ((z' : Int) < 1 ∨ 8 < (z' : Int)) := by omega
        have : sPut [.int .u64 k, .int .i64 z'] = (0 ≤ k ∧ k < 18446744073709551616, .sl (bsl (if (z' : Int) < 1 ∨ 8 < (z' : Int) then [] else putL k.toNat ((z' : Nat) : Int).toNat))) := rfl
        rw [this, if_neg hz1, eq_true (show 0 ≤ k ∧ k < 18446744073709551616 by omega)]
        simp
      have ly := s_lay_at hw (putL k.toNat z')
      have hl : b.length + (putL k.toNat z').length ≤ 4294967296 := by rw [putL_length]; omega
      rw [eq_true hl] at ly
      simp only [↓sqP, sqT, d_reader_Writer_Num, fW, frameFrom, ↓dwp_cond, dvalX, dops_some, dval, frameFrom, Nat.reduceEqDiff, Nat.reduceAdd, ↓reduceIte, dBin, dInt, dUn, retV, retL, fzVs, fzV, fz1, DV.immB, List.map_cons, List.map_nil, Bool.false_eq_true, reduceCtorEq, IntKind.bits, Nat.reduceLeDiff, dCallP, viewVs, viewV, view1, noMemV, noMem, gt_iff_lt, o, d1, d2, d3, w8, hge, hsh, wk, pp, ly, e]
  · have o := s_wOk_bad hw
    simp only [↓sqP, sqT, d_reader_Writer_Num, frameFrom, ↓dwp_cond, dvalX, dval, frameFrom, Nat.reduceAdd, ↓reduceIte, dUn, retV, retL, List.map_cons, List.map_nil, o]
  · simp only [↓sqP, sqT, d_reader_Writer_Num, frameFrom, ↓dwp_cond, dvalX, dval, frameFrom, Nat.reduceAdd, ↓reduceIte, dUn, retV, retL, List.map_cons, List.map_nil, s_wOk_nil]
end Go.Proofs.YtfaailjhioobhaaGreat

/- Writers of the program: Int, Text, Part, New. -/
set_option linter.all false
set_option maxRecDepth 20000
namespace Go.Proofs.YtfaailjhioobhaaGreat
open Go.Nk

theorem isW_set {g : Bool} {hp : List DObj} {n m : Nat} {b c : List UInt8} (hw : isW g hp n m (some b)) : isW g (setW g hp n m (some c)) n m (some c) := by
  have hn := isW_lt hw
  have hm := isW_lt2 hw
  refine ⟨?_, ?_, hw.2.2⟩
  · exact List.getElem?_set_self (by simp; exact hn)
  · show ((hp.set m _).set n _)[m]? = _
    rw [List.getElem?_set_ne hw.2.2]
    exact List.getElem?_set_self hm
theorem isW_none {g : Bool} {hp : List DObj} {n m : Nat} {b : List UInt8} (hw : isW g hp n m (some b)) : isW g (setW g hp n m none) n 0 none :=
  List.getElem?_set_self (isW_lt hw)
theorem setW_set {g : Bool} {hp : List DObj} {n m : Nat} {c e : List UInt8} (hne : n ≠ m) : setW g (setW g hp n m (some c)) n m (some e) = setW g hp n m (some e) := by
  show (((hp.set m _).set n _).set m _).set n _ = (hp.set m _).set n _
  rw [List.set_comm _ _ hne, List.set_set, List.set_set]

/-- With the length ahead. -/
def wLen (b c : List UInt8) (z : Int) : WS := match wNum b c.length z with
  | some b' => some (b' ++ c)
  | none => none

theorem trim_length : ∀ (n : Nat) (l : List UInt8), (trimN n l).length ≤ l.length
  | 0, l => Nat.le_refl _
  | n + 1, l => by
    unfold trimN
    split
    · exact Nat.le_trans (trim_length n _) (by simp)
    · exact Nat.le_refl _

theorem intF_length (x : Int) : (intF x).length ≤ 8 := by
  have := trim_length (putL (x % 18446744073709551616).toNat 8).length (putL (x % 18446744073709551616).toNat 8)
  rw [putL_length] at this
  unfold intF trim
  rw [putL_length]
  exact this

/-! Int -/
noncomputable def s_wInt : List DV → List DObj → Res := specW true (fun x : Int => [.int .i64 x]) (fW true fun b x => (b.length + 20 ≤ 4294967296 ∧ -9223372036854775808 ≤ x ∧ x < 9223372036854775808, .tup [], wLen b (intF x) 1)) (fun x => (-9223372036854775808 ≤ x ∧ x < 9223372036854775808, .tup [])) (fun _ => (False, .undef))
theorem s_wInt_at {hp : List DObj} {n m : Nat} {b : List UInt8} (hw : isW true hp n m (some b)) (x : Int) : s_wInt [.ptr n 1 0 0, .int .i64 x] hp = ⟨b.length + 20 ≤ 4294967296 ∧ -9223372036854775808 ≤ x ∧ x < 9223372036854775808, .tup [], setW true hp n m (wLen b (intF x) 1)⟩ := specW_at injL_int hw x
theorem wNum_len {b b' : List UInt8} {k z : Int} (h : wNum b k z = some b') : b'.length ≤ b.length + 4 := by
  unfold wNum at h
  split at h
  · cases h
  · rename_i hc
    injection h with h
    rw [← h, List.length_append, putL_length]
    omega
theorem ok_wInt : OkH Tryz.prog 107 s_wInt := by
  refine OkH.mkW (ps := [(128, sInt)]) (hs := [(20, s_wNum), (59, s_lay)]) ⟨ok_octet_Int, trivial⟩ ⟨ok_wNum, ok_lay, trivial⟩ m_reader_Writer_Int (fun _ => rfl) (fun n m hp b x hw hn hm h => ?_) (fun n hp x hw hn hx => ?_) (fun hp x h => h.elim)
  · obtain ⟨hb, hx⟩ := h
    have e0 : sInt [.int .i64 x] = (-9223372036854775808 ≤ x ∧ x < 9223372036854775808, .sl (bsl (intF x))) := rfl
    rw [eq_true hx] at e0
    have il := intF_length x
    have w := s_wNum_at hw (intF x).length 1
    rw [eq_true (show b.length + 4 ≤ 4294967296 ∧ ((intF x).length : Int) < 9223372036854775808 by omega)] at w
    cases hv : wNum b (intF x).length 1 with
    | none =>
      rw [hv] at w
      have l := s_lay_bad (isW_none hw) (intF x)
      have e : wLen b (intF x) 1 = none := by unfold wLen; rw [hv]
      simp only [↓sqP, sqT, d_reader_Writer_Int, fW, dvalX, dval, frameFrom, Nat.reduceEqDiff, ↓reduceIte, retV, retL, fzVs, fzV, fz1, DV.immB, List.map_cons, List.map_nil, Bool.false_eq_true, reduceCtorEq, Nat.reduceLeDiff, dCallP, viewVs, viewV, view1, noMemV, noMem, Int.reduceNeg, e0, w, l, e]
    | some b' =>
      rw [hv] at w
      have hl' := wNum_len hv
      have l := s_lay_at (isW_set (c := b') hw) (intF x)
      rw [setW_set hw.2.2, eq_true (show b'.length + (intF x).length ≤ 4294967296 by omega)] at l
      have e : wLen b (intF x) 1 = some (b' ++ intF x) := by unfold wLen; rw [hv]
      simp only [↓sqP, sqT, d_reader_Writer_Int, fW, dvalX, dval, frameFrom, Nat.reduceEqDiff, ↓reduceIte, retV, retL, fzVs, fzV, fz1, DV.immB, List.map_cons, List.map_nil, Bool.false_eq_true, reduceCtorEq, Nat.reduceLeDiff, dCallP, viewVs, viewV, view1, noMemV, noMem, Int.reduceNeg, e0, w, l, e]
  · have e0 : sInt [.int .i64 x] = (-9223372036854775808 ≤ x ∧ x < 9223372036854775808, .sl (bsl (intF x))) := rfl
    rw [eq_true (show -9223372036854775808 ≤ x ∧ x < 9223372036854775808 from hx)] at e0
    have w := s_wNum_bad hw (intF x).length 1
    have l := s_lay_bad hw (intF x)
    simp only [↓sqP, sqT, d_reader_Writer_Int, dvalX, dval, frameFrom, Nat.reduceEqDiff, ↓reduceIte, retV, retL, fzVs, fzV, fz1, DV.immB, List.map_cons, List.map_nil, Bool.false_eq_true, reduceCtorEq, dCallP, viewVs, viewV, view1, noMemV, noMem, e0, w, l]

/-! Text, Part -/
theorem injL_str : InjL (fun c : List UInt8 => [DV.str c]) := fun x y h => by
  simp only [List.cons.injEq, DV.str.injEq, and_true] at h
  exact h
noncomputable def s_wText : List DV → List DObj → Res := specW true (fun c : List UInt8 => [.str c]) (fW true fun b c => (b.length + c.length + 20 ≤ 4294967296, .tup [], wLen b c 2)) (fun c => (c.length ≤ 4294967296, .tup [])) (fun _ => (False, .undef))
theorem s2b_bsl (c : List UInt8) : (c.map fun b => [DV.int .u8 b.toNat]) = bsl c := rfl
theorem ok_wText : OkH Tryz.prog 105 s_wText := by
  refine OkH.mkW (ps := []) (hs := [(20, s_wNum), (59, s_lay)]) trivial ⟨ok_wNum, ok_lay, trivial⟩ m_reader_Writer_Text (fun _ => rfl) (fun n m hp b c hw hn hm h => ?_) (fun n hp c hw hn hx => ?_) (fun hp x h => h.elim)
  · have hb : b.length + c.length + 20 ≤ 4294967296 := h
    have w := s_wNum_at hw c.length 2
    rw [eq_true (show b.length + 4 ≤ 4294967296 ∧ (c.length : Int) < 9223372036854775808 by omega)] at w
    cases hv : wNum b c.length 2 with
    | none =>
      rw [hv] at w
      have l := s_lay_bad (isW_none hw) c
      have e : wLen b c 2 = none := by unfold wLen; rw [hv]
      simp only [↓sqP, sqT, d_reader_Writer_Text, fW, dvalX, dval, frameFrom, Nat.reduceEqDiff, ↓reduceIte, retV, retL, List.map_cons, List.map_nil, reduceCtorEq, Nat.reduceLeDiff, s2b_bsl, w, l, e]
    | some b' =>
      rw [hv] at w
      have hl' := wNum_len hv
      have l := s_lay_at (isW_set (c := b') hw) c
      rw [setW_set hw.2.2, eq_true (show b'.length + c.length ≤ 4294967296 by omega)] at l
      have e : wLen b c 2 = some (b' ++ c) := by unfold wLen; rw [hv]
      simp only [↓sqP, sqT, d_reader_Writer_Text, fW, dvalX, dval, frameFrom, Nat.reduceEqDiff, ↓reduceIte, retV, retL, List.map_cons, List.map_nil, reduceCtorEq, Nat.reduceLeDiff, s2b_bsl, w, l, e]
  · have w := s_wNum_bad hw c.length 2
    have l := s_lay_bad hw c
    simp only [↓sqP, sqT, d_reader_Writer_Text, dvalX, dval, frameFrom, Nat.reduceEqDiff, ↓reduceIte, retV, retL, List.map_cons, List.map_nil, reduceCtorEq, s2b_bsl, w, l]

noncomputable def s_wPart : List DV → List DObj → Res := specW true (fun c : List UInt8 => [.sl (bsl c)]) (fW true fun b c => (b.length + c.length + 20 ≤ 4294967296, .tup [], wLen b c 4)) (fun c => (c.length ≤ 4294967296, .tup [])) (fun _ => (False, .undef))
theorem ok_wPart : OkH Tryz.prog 21 s_wPart := by
  refine OkH.mkW (ps := []) (hs := [(20, s_wNum), (59, s_lay)]) trivial ⟨ok_wNum, ok_lay, trivial⟩ m_reader_Writer_Part (fun _ => rfl) (fun n m hp b c hw hn hm h => ?_) (fun n hp c hw hn hx => ?_) (fun hp x h => h.elim)
  · have hb : b.length + c.length + 20 ≤ 4294967296 := h
    have w := s_wNum_at hw c.length 4
    rw [eq_true (show b.length + 4 ≤ 4294967296 ∧ (c.length : Int) < 9223372036854775808 by omega)] at w
    cases hv : wNum b c.length 4 with
    | none =>
      rw [hv] at w
      have l := s_lay_bad (isW_none hw) c
      have e : wLen b c 4 = none := by unfold wLen; rw [hv]
      simp only [↓sqP, sqT, d_reader_Writer_Part, fW, dvalX, dval, frameFrom, Nat.reduceEqDiff, ↓reduceIte, retV, retL, List.map_cons, List.map_nil, reduceCtorEq, Nat.reduceLeDiff, w, l, e]
    | some b' =>
      rw [hv] at w
      have hl' := wNum_len hv
      have l := s_lay_at (isW_set (c := b') hw) c
      rw [setW_set hw.2.2, eq_true (show b'.length + c.length ≤ 4294967296 by omega)] at l
      have e : wLen b c 4 = some (b' ++ c) := by unfold wLen; rw [hv]
      simp only [↓sqP, sqT, d_reader_Writer_Part, fW, dvalX, dval, frameFrom, Nat.reduceEqDiff, ↓reduceIte, retV, retL, List.map_cons, List.map_nil, reduceCtorEq, Nat.reduceLeDiff, w, l, e]
  · have w := s_wNum_bad hw c.length 4
    have l := s_lay_bad hw c
    simp only [↓sqP, sqT, d_reader_Writer_Part, dvalX, dval, frameFrom, Nat.reduceEqDiff, ↓reduceIte, retV, retL, List.map_cons, List.map_nil, reduceCtorEq, w, l]

/-! New -/
noncomputable def s_wNew : List DV → List DObj → Res := fun a hp => ⟨a = [], .ptr hp.length 1 0 0, hp ++ [⟨.loc, 2, [[.nil, .bool true]]⟩]⟩
theorem s_wNew_at (hp : List DObj) : s_wNew [] hp = ⟨True, .ptr hp.length 1 0 0, hp ++ [⟨.loc, 2, [[.nil, .bool true]]⟩]⟩ := by unfold s_wNew; simp
theorem ok_wNew : OkH Tryz.prog 18 s_wNew := by
  refine OkH.mk (ps := []) (hs := []) (n := 0) trivial trivial m_reader_New fun a hp h => ?_
  have h' : a = [] := h
  subst h'
  refine ⟨rfl, ?_⟩
  simp only [↓sqP, sqT, d_reader_New, s_wNew, buildCells, dvalX, dval, frameFrom, Nat.reduceAdd, ↓reduceIte, retV, DR.val, forall_const, List.length_cons, List.length_nil, Nat.reduceLeDiff, List.set_cons_zero, List.set_cons_succ, DV.one, List.not_mem_nil, List.forall_mem_cons, cellsOf, setFrom, DV.isU]
end Go.Proofs.YtfaailjhioobhaaGreat

/- Writers of the reference: bytes, Num, Int, Text, Part. -/
set_option linter.all false
set_option maxRecDepth 20000
namespace Go.Proofs.YtfaailjhioobhaaGreat
open Go.Nk

/-! bytes -/
/-! Num -/
/-! Int, Text, Part -/
end Go.Proofs.YtfaailjhioobhaaGreat

