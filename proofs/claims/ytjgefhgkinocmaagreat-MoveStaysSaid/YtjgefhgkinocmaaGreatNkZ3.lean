/- Loops over lists, seen by what is left of them. -/
import Derived.Test.YtjgefhgkinocmaaGreatNkZ2
set_option linter.all false
namespace Go.Nk

theorem drop_at {α : Type} (l : List α) {k : Nat} (h : k < l.length) : ∃ x, l[k]? = some x ∧ l.drop k = x :: l.drop (k + 1) :=
  ⟨l[k], List.getElem?_eq_getElem h, List.drop_eq_getElem_cons h⟩

/-- A loop that goes through a list from the front on: what is asked of what is left, and of the state. -/
theorem dwp_each {C : Orc} {h0 : Nat} {live : List Nat} {m : Option Nat} {c : DCode} {Q : DExit → DS → Prop} {s : DS} {α σ : Type} (l : List α) (st : Nat → σ → DS) (R : Nat → List α → σ → Prop) (a0 : σ)
    (hm : match m with | some k => h0 ≤ k | none => True) (hs : s.cut live m = st 0 a0) (hi : R 0 l a0)
    (step : ∀ k x r a, k < l.length → l[k]? = some x → l.drop k = x :: r → R k (x :: r) a → dwp C h0 c (DExit.then (fun s' => ∃ a', s'.cut live m = st (k + 1) a' ∧ R (k + 1) r a') Q) (st k a))
    (last : ∀ k a, k = l.length → R k [] a → dwp C h0 c (DExit.then (fun _ => False) Q) (st k a)) : dwp C h0 (.loop live m c) Q s := by
  refine dwp_loop (fun x : Nat × σ => st x.1 x.2) (fun x => x.1 ≤ l.length ∧ R x.1 (l.drop x.1) x.2) (fun x => l.length - x.1) (0, a0) hm hs ⟨Nat.zero_le _, hi⟩ fun x hx => ?_
  obtain ⟨k, a⟩ := x
  obtain ⟨hk, hr⟩ := hx
  simp only at hk hr ⊢
  by_cases d : k < l.length
  · obtain ⟨x, e1, e2⟩ := drop_at l d
    rw [e2] at hr
    refine dwp_mono' c _ _ _ (fun e s' hh => ?_) (step k x _ a d e1 e2 hr)
    cases e with
    | normal =>
      obtain ⟨a', h1, h2⟩ := hh
      exact ⟨(k + 1, a'), h1, ⟨d, h2⟩, by simp only; omega⟩
    | exit id => exact hh
    | ret => exact hh
  · have e : k = l.length := by omega
    rw [e, List.drop_length, ← e] at hr
    refine dwp_mono' c _ _ _ (fun e s' hh => ?_) (last k a e hr)
    cases e with
    | normal => exact hh.elim
    | exit id => exact hh
    | ret => exact hh

theorem i64_id {n : Int} (h1 : -9223372036854775808 ≤ n) (h2 : n < 9223372036854775808) : IntKind.i64.wrap n = n := wrap_i64_id ⟨h1, h2⟩
theorem mem_drop_of {α : Type} {l : List α} {k : Nat} {x : α} {r : List α} (h : l.drop k = x :: r) : x ∈ l := List.mem_of_mem_drop (h ▸ List.mem_cons_self)
/-! What a function tells, over what its arguments are together. -/
open Classical in
noncomputable def specA {α : Type} (args : α → List DV) (f : α → Prop × DV) : List DV → Prop × DV := fun l =>
  if h : ∃ a, l = args a then f h.choose else (False, .undef)
theorem specA_at {α : Type} {args : α → List DV} (h : InjL args) (f : α → Prop × DV) (a : α) : specA args f (args a) = f a := by
  unfold specA
  have hx : ∃ b, args a = args b := ⟨a, rfl⟩
  rw [dif_pos hx]
  have hy := hx.choose_spec
  generalize hx.choose = x at hy ⊢
  rw [h _ _ hy]
theorem OkP.mkA [Inhabited Env] {P : Program} {ps hs} {g : FuncId} {d : DFun} {N : Nat} {α : Type} {args : α → List DV} {f : α → Prop × DV} (h1 : AllP P ps) (h2 : AllH P hs) (hm : mFun P g N d = true)
    (hN : ∀ a, (args a).length = N) (k : ∀ a, (f a).1 → dwp (Orc.of ps hs) 0 d.code (EndP d.res (f a).2) ⟨frameFrom 0 (args a), []⟩) : OkP P g (specA args f) := by
  refine OkP.mk h1 h2 hm fun l hp => ?_
  unfold specA at hp ⊢
  split at hp
  · rename_i h
    rw [dif_pos h]
    have hx := h.choose_spec
    have := k _ hp
    generalize h.choose = a at *
    subst hx
    exact ⟨hN a, this⟩
  · exact hp.elim

/-! Functions that work on the heap, by a relation to what they are handed. -/
open Classical in
noncomputable def specG {α : Type} (r : α → List DV → List DObj → Prop) (f : α → Prop × DV) (out : α → List DObj → List DObj) : List DV → List DObj → Res := fun a hp =>
  if h : ∃ x, r x a hp then ⟨(f h.choose).1, (f h.choose).2, out h.choose hp⟩ else no
theorem specG_at {α : Type} {r : α → List DV → List DObj → Prop} {f : α → Prop × DV} {out : α → List DObj → List DObj} (hu : ∀ x y a hp, r x a hp → r y a hp → x = y) {x : α} {a : List DV} {hp : List DObj} (h : r x a hp) :
    specG r f out a hp = ⟨(f x).1, (f x).2, out x hp⟩ := by
  unfold specG
  have hx : ∃ y, r y a hp := ⟨x, h⟩
  rw [dif_pos hx]
  have hy := hx.choose_spec
  generalize hx.choose = y at hy ⊢
  rw [hu _ _ _ _ hy h]
theorem OkH.mkG [Inhabited Env] {P : Program} {ps hs} {fn : FuncId} {d : DFun} {N : Nat} {α : Type} {r : α → List DV → List DObj → Prop} {f : α → Prop × DV} {out : α → List DObj → List DObj} (h1 : AllP P ps) (h2 : AllH P hs) (hm : mFun P fn N d = true)
    (hN : ∀ x a hp, r x a hp → a.length = N) (k : ∀ x a hp, r x a hp → (f x).1 → dwp (Orc.of ps hs) hp.length d.code (EndC d.res (f x).2 hp (out x hp)) ⟨frameFrom 0 a, hp⟩) : OkH P fn (specG r f out) := by
  intro a hp hpre
  unfold specG at hpre ⊢
  split at hpre
  · rename_i hx
    rw [dif_pos hx]
    have hy := hx.choose_spec
    generalize hx.choose = y at hy hpre ⊢
    exact tellsH_ofC (of_ok h1 h2) (by rw [hN _ _ _ hy]; exact hm) (k _ _ _ hy hpre)
  · exact hpre.elim
theorem OkH.mkGH [Inhabited Env] {P : Program} {ps hs} {fn : FuncId} {d : DFun} {N : Nat} {α : Type} {r : α → List DV → List DObj → Prop} {f : α → Prop × DV} {out : α → List DObj → List DObj} (h1 : AllP P ps) (h2 : AllH P hs) (hm : mFun P fn N d = true)
    (hN : ∀ x a hp, r x a hp → a.length = N) (k : ∀ x a hp, r x a hp → (f x).1 → dwp (Orc.of ps hs) hp.length d.code (EndH d.res (f x).2 (out x hp)) ⟨frameFrom 0 a, hp⟩) : OkH P fn (specG r f out) := by
  refine OkH.mk h1 h2 hm fun a hp hpre => ?_
  unfold specG at hpre ⊢
  split at hpre
  · rename_i hx
    rw [dif_pos hx]
    have hy := hx.choose_spec
    generalize hx.choose = y at hy hpre ⊢
    exact ⟨hN _ _ _ hy, k _ _ _ hy hpre⟩
  · exact hpre.elim
/-- The last of a heap. -/
theorem last_get {hp g t : List DObj} {o : DObj} : (hp ++ (g ++ (o :: t)))[hp.length + g.length]? = some o := by
  rw [← List.append_assoc, List.getElem?_append_right (by simp)]
  simp
theorem last_set {hp g t : List DObj} {o o' : DObj} : (hp ++ (g ++ (o :: t))).set (hp.length + g.length) o' = hp ++ (g ++ (o' :: t)) := by
  rw [← List.append_assoc, List.set_append_right _ _ (by simp)]
  simp
theorem lst_get {hp t : List DObj} {o : DObj} : (hp ++ (o :: t))[hp.length]? = some o := by
  rw [List.getElem?_append_right (by simp)]
  simp
theorem lst_get1 {hp t : List DObj} {o b : DObj} : (hp ++ (b :: o :: t))[hp.length + 1]? = some o := by
  rw [List.getElem?_append_right (by simp)]
  simp
theorem lst_set {hp t : List DObj} {o o' : DObj} : (hp ++ (o :: t)).set hp.length o' = hp ++ (o' :: t) := by
  rw [List.set_append_right _ _ (by simp)]
  simp
theorem lst_set1 {hp t : List DObj} {o b o' : DObj} : (hp ++ (b :: o :: t)).set (hp.length + 1) o' = hp ++ (b :: o' :: t) := by
  rw [List.set_append_right _ _ (by simp)]
  simp
theorem endC_normal {res : List DR} {r : DV} {hp hp' : List DObj} {s : DS} : EndC res r hp hp' .normal s = ((retV s res).1 ∧ (retV s res).2 = r ∧ r.inB hp.length = true ∧ hp'.length = hp.length ∧ (∃ t, s.hp = hp' ++ t) ∧ ∀ (i : Nat) (o : DObj), hp'[i]? = some o → hp[i]? = some o ∨ o.cut hp.length = o) := rfl
theorem endC_ret {res : List DR} {r : DV} {hp hp' : List DObj} {s : DS} : EndC res r hp hp' .ret s = ((retV s res).1 ∧ (retV s res).2 = r ∧ r.inB hp.length = true ∧ hp'.length = hp.length ∧ (∃ t, s.hp = hp' ++ t) ∧ ∀ (i : Nat) (o : DObj), hp'[i]? = some o → hp[i]? = some o ∨ o.cut hp.length = o) := rfl

/-! One object of a heap. -/
def one (hp : List DObj) (m : Nat) (o : DObj) : List DObj := hp.set m o
section
variable {hp t t' : List DObj} {m : Nat} {o o' b : DObj}
theorem one_is (h : hp[m]? = some o) : one hp m o = hp := set_at h
theorem one_len : (one hp m o).length = hp.length := by simp [one]
theorem one_get (h : m < hp.length) : (one hp m o ++ t)[m]? = some o := by
  rw [List.getElem?_append_left (by simpa [one] using h)]
  simp [one, h]
theorem one_b : (one hp m o ++ (b :: t))[hp.length]? = some b := by
  rw [List.getElem?_append_right (by simp [one])]
  simp [one]
theorem one_set (h : m < hp.length) : (one hp m o ++ t).set m o' = one hp m o' ++ t := by
  rw [List.set_append_left _ _ (by simpa [one] using h)]
  simp [one]
theorem one_end (h : o.cut hp.length = o) : ∀ (i : Nat) (x : DObj), (one hp m o)[i]? = some x → hp[i]? = some x ∨ x.cut hp.length = x := by
  intro i x hx
  unfold one at hx
  rw [List.getElem?_set] at hx
  split at hx
  · split at hx
    · injection hx with hx; subst hx; exact .inr h
    · cases hx
  · exact .inl hx
theorem cut_imm {z : Nat} {es : List (List DV)} {k : Nat} : (DObj.mk .imm z es).cut k = ⟨.imm, z, es⟩ := rfl
end
/-! Rules together. -/
def rP := And.intro @dwp_skip (And.intro @dwp_ops (And.intro @dwp_opsP (And.intro @dwp_opsS (And.intro @dwp_seq (And.intro @dwp_block (And.intro @dwp_exit (And.intro @dwp_ret (And.intro @dwp_condT (And.intro @dwp_condF (And.intro @dwp_scope (And.intro @dval_b2s (And.intro @then_normal (And.intro @then_exit (And.intro @then_ret (And.intro @inBlock_normal (And.intro @inBlock_exit (And.intro @inBlock_ret @dwp_rsv)))))))))))))))))
def rT := And.intro @false_and (And.intro @and_false (And.intro @if_false.{1} (And.intro @ite_true.{1} (And.intro @ite_false.{1} (And.intro @List.cons_append.{0} (And.intro @List.take_succ_cons.{0} (And.intro @List.drop_succ_cons.{0} (And.intro @List.take_zero.{0} (And.intro @List.take_nil.{0} (And.intro @Only_set (And.intro @Only_same (And.intro @Only_zero (And.intro @Only_succ (And.intro @dops_nil (And.intro @dops_none (And.intro @dops_someT (And.intro @dops_someF (And.intro @dops_someN (And.intro @put_some (And.intro @put_none (And.intro @ev_t (And.intro @ev_c (And.intro @endP_normal (And.intro @endP_ret (And.intro @endH_normal (And.intro @endH_ret (And.intro @get_cons (And.intro @Nk.get_nil (And.intro @if_true.{1} (And.intro @Nat.succ_ne_self (And.intro @true_and (And.intro @and_true (And.intro @Bool.not_true (And.intro @beq_ft (And.intro @beq_tf (And.intro @bne_ft (And.intro @bne_tf (And.intro @bne_self_eq_false.{0} (And.intro @Bool.not_false (And.intro @List.map_cons.{0, 0} (And.intro @List.map_nil.{0, 0} (And.intro @Option.map_some.{0, 0} (And.intro @Option.map_none.{0, 0} (And.intro @false_implies (And.intro @Bool.true_eq_false (And.intro @Int.toNat_natCast (And.intro @Nat.zero_ne_one (And.intro @Nat.one_ne_zero (And.intro @List.length_cons.{0} (And.intro @List.length_nil.{0} (And.intro @List.getD_cons_zero.{0} (And.intro @List.getD_cons_succ.{0} (And.intro @Nat.lt_add_one (And.intro @Nat.zero_lt_one (And.intro @Nat.zero_add (And.intro @decide_eq_true_eq (And.intro @decide_eq_false_iff_not (And.intro @Int.ofNat_lt (And.intro @bsl_length @of_p)))))))))))))))))))))))))))))))))))))))))))))))))))))))))))
def rU := And.intro @of_h (And.intro @pOf_cons (And.intro @hOf_cons (And.intro @spec0_at (And.intro @specB1_at (And.intro @specB2_at (And.intro @specB1_nil (And.intro @specB2_nil1 (And.intro @specB2_nil2 (And.intro @specB2_nil3 (And.intro @spec1_at (And.intro @List.all_cons.{0} (And.intro @List.all_nil.{0} (And.intro @Bool.and_true (And.intro @Bool.and_false (And.intro @Bool.true_and (And.intro @Bool.false_and (And.intro @not_true_eq_false (And.intro @not_false_eq_true (And.intro @List.getElem?_cons_zero.{0} (And.intro @List.getElem?_cons_succ.{0} (And.intro @List.set_cons_zero.{0} (And.intro @List.set_set.{0} (And.intro @List.set_cons_succ.{0} (And.intro @List.drop_zero.{0} (And.intro @List.take_length.{0} (And.intro @List.not_mem_nil.{0} (And.intro @List.forall_mem_cons.{0} (And.intro @List.nil_append.{0} (And.intro @true_or (And.intro @or_true (And.intro @or_false (And.intro @false_or (And.intro @or_self (And.intro @beq_self_eq_true.{0} (And.intro @List.length_set.{0} (And.intro @List.length_append.{0} (And.intro @List.length_replicate.{0} (And.intro @decide_true (And.intro @decide_false (And.intro @gt_iff_lt.{0} (And.intro @ge_iff_le.{0} (And.intro @slice_lo (And.intro @slice_hi (And.intro @slice_both (And.intro @List.getElem?_nil.{0} (And.intro @ne_eq.{1} (And.intro @DV.tup.injEq (And.intro @DV.int.injEq (And.intro @DV.bool.injEq (And.intro @DV.agg.injEq (And.intro @DV.str.injEq (And.intro @List.cons.injEq.{0} (And.intro @Int.cast_ofNat_Int (And.intro @Nat.zero_mul (And.intro @Nat.mul_one (And.intro @List.length_map.{0, 0} (And.intro @Nat.lt_irrefl (And.intro @Int.lt_irrefl (And.intro @endC_normal @endC_ret)))))))))))))))))))))))))))))))))))))))))))))))))))))))))))
end Go.Nk
