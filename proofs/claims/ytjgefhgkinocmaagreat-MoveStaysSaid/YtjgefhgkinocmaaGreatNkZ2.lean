/- What a function leaves behind that nobody names is forgotten at its end. Structs whose one field is a slice of their own: two objects. -/
import Derived.Test.YtjgefhgkinocmaaGreatNkZ1
set_option linter.all false
namespace Go.Nk
open Go.RowKit

/-- What is asked of an end, when what was made meanwhile is forgotten. -/
def EndC (res : List DR) (r : DV) (hp hp' : List DObj) : DExit → DS → Prop
  | .exit _, _ => False
  | _, s => (retV s res).1 ∧ (retV s res).2 = r ∧ r.inB hp.length = true ∧ hp'.length = hp.length ∧ (∃ t, s.hp = hp' ++ t) ∧ ∀ (i : Nat) (o : DObj), hp'[i]? = some o → hp[i]? = some o ∨ o.cut hp.length = o

section
variable {P : Program} {K F0 : Nat → Prop} {σ0 : Nat → Option Nat} {hp0 : List DObj} {N : Nat} {w0 : World} {C : Orc}

theorem VRep.inB {F : Nat → Prop} {σ : Nat → Option Nat} {hp : List DObj} {w : World} {d : DV} {v : Value} (h : VRep F σ hp w d v) : d.inB hp.length = true := by
  have key : ∀ cs : List DV, (∀ (j : Nat) (d : DV), cs[j]? = some d → d.inB hp.length = true) → DV.inBL hp.length cs = true := by
    intro cs
    induction cs with
    | nil => intro _; rfl
    | cons c r ih => intro h; simp only [DV.inBL, Bool.and_eq_true]; exact ⟨h 0 c rfl, ih fun j d hd => h (j + 1) d (by simpa using hd)⟩
  induction h with
  | undef v => rfl
  | imm h =>
    induction h with
    | clo f cs vs hl vv hv hr ih => exact key _ ih
    | _ => rfl
  | own h L off len v h1 hh ho => simpa [DV.inB] using hh
  | ptr h L i j v h1 hh ho => simpa [DV.inB] using hh
  | agg cs vs hl vv hv hr ih => exact key _ ih
  | tup cs vs hl vv hv hr ih => exact key _ ih
  | clo f cs vs hl vv hv hr ih => exact key _ ih
  | meth f cs vs hl vv hv hr ih => exact key _ ih

theorem cut_same [Inhabited Env] {hp : List DObj} {F : Nat → Prop} {σ : Nat → Option Nat} {w : World} (hs : SimH K F σ hp w) {i : Nat} {o : DObj} (h : hp[i]? = some o) : o.cut hp.length = o := by
  unfold DObj.cut
  split
  · rename_i hk
    have ho := hs.obj i o h
    unfold ORep at ho
    rw [hk] at ho
    obtain ⟨g, _, _, _, c, ty, _, _, _, hb⟩ := ho
    have : o.es.map (fun r => r.map (DV.cut hp.length)) = o.es := by
      refine List.ext_getElem? fun i => ?_
      rw [List.getElem?_map]
      cases he : o.es[i]? with
      | none => rfl
      | some e =>
        simp only [Option.map_some, Option.some.injEq]
        refine List.ext_getElem? fun j => ?_
        rw [List.getElem?_map]
        cases hd : e[j]? with
        | none => rfl
        | some d =>
          obtain ⟨v, _, hv⟩ := hb i j d (by unfold cellAt; rw [he]; exact hd)
          simp only [Option.map_some, DV.cut, hv.inB, if_true]
    rw [this]
  · rfl

/-- A function that works on the heap; what it made is forgotten. -/
theorem tellsH_ofC [Inhabited Env] (hC : C.ok P) {f : FuncId} {d : DFun} {dargs : List DV} {hp hp' : List DObj} {r : DV} (hm : mFun P f dargs.length d = true)
    (h : dwp C hp.length d.code (EndC d.res r hp hp') ⟨frameFrom 0 dargs, hp⟩) : callOk P f = true ∧ TellsH P f dargs hp r hp' := by
  obtain ⟨hok, fn, c, hf, hb, hn, hc, hr⟩ := mFun_parts hm
  refine ⟨hok, fun K F σ w args hs ha => ?_⟩
  refine calls_of_cur hf hb (code_soundIn hC d.code c none 0 K F σ hp w _ _ _ w (.inl rfl) hc h (cur_start hs ha hn)) (fun s a w' hcur hq => ?_) (fun id s h => h)
  have hq' : (retV s d.res).1 ∧ (retV s d.res).2 = r ∧ r.inB hp.length = true ∧ hp'.length = hp.length ∧ (∃ t, s.hp = hp' ++ t) ∧ ∀ (i : Nat) (o : DObj), hp'[i]? = some o → hp[i]? = some o ∨ o.cut hp.length = o := hq.elim id id
  obtain ⟨h1, rfl, h2, h3, ⟨t, h4⟩, h5⟩ := hq'
  have hcut := hcur.cut [] (some hp.length) (Nat.le_refl _)
  obtain ⟨K', F', σ', hKK, hs', hf', hN, hdef, hmv, hhm⟩ := hcur
  obtain ⟨v, hv, hrep⟩ := res_run hs' hf' hr h1
  have e : (s.cut [] (some hp.length)).hp = hp' := by
    simp only [DS.cut, h4]
    rw [List.take_append_of_le_length (by omega), List.take_of_length_le (by omega)]
    refine List.ext_getElem? fun i => ?_
    rw [List.getElem?_map]
    cases hi : hp'[i]? with
    | none => rfl
    | some o =>
      simp only [Option.map_some, Option.some.injEq]
      rcases h5 i o hi with h | h
      · exact cut_same hs h
      · exact h
  refine ⟨v, hv, v, rfl, F', σ', ?_, hmv, ?_, ?_⟩
  · have := (hs'.weak hKK).cut hp.length
    simp only [DS.cut] at e
    rwa [e] at this
  · have hl := hhm.len
    rw [← e]
    refine ⟨hhm.mono, hhm.keepF, by simp [DS.cut]; omega, fun h o ho => ?_⟩
    obtain ⟨o', h1, h2, h3⟩ := hhm.ob h o ho
    have hlt := lt_of_some ho
    refine ⟨o'.cut hp.length, ?_, ?_, ?_⟩
    · simp only [DS.cut]
      rw [List.getElem?_map, List.getElem?_take, if_pos (by omega), h1]; rfl
    · rw [(cut_fields hp.length o').2.2]; exact h2
    · rw [(cut_fields hp.length o').2.2, (cut_fields hp.length o').1, (cut_fields hp.length o').2.1]; exact h3
  · rw [← e]
    exact hrep.cut h2
end

/-! Two objects: a struct, and what one of its fields has. -/
structure Duo (ρ : Type) where
  o : Nat → ρ → DObj
  c : ρ → DObj

def Three (hp : List DObj) (n m : Nat) : Prop := n < hp.length ∧ m < hp.length ∧ n ≠ m

section
variable {ρ α : Type} {T : Duo ρ} {hp t : List DObj} {n m : Nat} {v v' : ρ}
def Duo.is (T : Duo ρ) (hp : List DObj) (n m : Nat) (v : ρ) : Prop := hp[n]? = some (T.o m v) ∧ hp[m]? = some (T.c v) ∧ n ≠ m
def Duo.put (T : Duo ρ) (hp : List DObj) (n m : Nat) (v : ρ) : List DObj := (hp.set m (T.c v)).set n (T.o m v)
structure Duo.ok (T : Duo ρ) : Prop where
  inj1 : ∀ m v m' v', T.o m v = T.o m' v' → m = m'
  inj2 : ∀ m v v', T.o m v = T.o m v' → T.c v = T.c v' → v = v'
  cut1 : ∀ m v k, m < k → (T.o m v).cut k = T.o m v
  cut2 : ∀ v k, (T.c v).cut k = T.c v

theorem set_at {hp : List DObj} {n : Nat} {o : DObj} (h : hp[n]? = some o) : hp.set n o = hp := by
  refine List.ext_getElem? fun i => ?_
  rw [List.getElem?_set]
  split
  · rename_i e; subst e; rw [h]; simp [lt_of_some h]
  · rfl
theorem Duo.is_put (h : T.is hp n m v) : T.put hp n m v = hp := by
  unfold Duo.put
  rw [set_at h.2.1, set_at h.1]
theorem Duo.is_three (h : T.is hp n m v) : Three hp n m := ⟨lt_of_some h.1, lt_of_some h.2.1, h.2.2⟩
theorem Duo.put_len : (T.put hp n m v).length = hp.length := by simp [Duo.put]
theorem Duo.put_put (k : Three hp n m) : T.put (T.put hp n m v ++ t) n m v' = T.put hp n m v' ++ t := by
  obtain ⟨k1, k2, k3⟩ := k
  unfold Duo.put
  rw [List.set_append_left _ _ (by simpa using k2), List.set_append_left _ _ (by simpa using k1)]
  congr 1
  refine List.ext_getElem? fun i => ?_
  by_cases h1 : n = i <;> by_cases h2 : m = i <;> simp_all []
theorem Duo.get_o (k : Three hp n m) : (T.put hp n m v ++ t)[n]? = some (T.o m v) := by
  obtain ⟨k1, k2, k3⟩ := k
  rw [List.getElem?_append_left (by simpa [Duo.put] using k1)]
  simp [Duo.put, k1]
theorem Duo.get_c (k : Three hp n m) : (T.put hp n m v ++ t)[m]? = some (T.c v) := by
  obtain ⟨k1, k2, k3⟩ := k
  rw [List.getElem?_append_left (by simpa [Duo.put] using k2)]
  simp [Duo.put, k2, k3]
theorem Duo.get_b {o : DObj} : (T.put hp n m v ++ (o :: t))[hp.length]? = some o := by
  rw [List.getElem?_append_right (by simp [Duo.put])]
  simp [Duo.put]
theorem Duo.get_bt {o : DObj} {t' : List DObj} : (T.put hp n m v ++ (t ++ (o :: t')))[hp.length + t.length]? = some o := by
  rw [List.getElem?_append_right (by simp [Duo.put])]
  simp [Duo.put]
theorem Duo.set_bt {o o' : DObj} {t' : List DObj} : (T.put hp n m v ++ (t ++ (o :: t'))).set (hp.length + t.length) o' = T.put hp n m v ++ (t ++ (o' :: t')) := by
  rw [List.set_append_right _ _ (by simp [Duo.put])]
  simp [Duo.put]
theorem Duo.put_is (k : Three hp n m) : T.is (T.put hp n m v ++ t) n m v := ⟨Duo.get_o k, Duo.get_c k, k.2.2⟩
theorem Duo.set_o (k : Three hp n m) (h : T.c v' = T.c v) : (T.put hp n m v ++ t).set n (T.o m v') = T.put hp n m v' ++ t := by
  obtain ⟨k1, k2, k3⟩ := k
  rw [List.set_append_left _ _ (by simpa [Duo.put] using k1)]
  unfold Duo.put
  rw [List.set_set, h]
theorem Duo.set_c (k : Three hp n m) (h : T.o m v' = T.o m v) : (T.put hp n m v ++ t).set m (T.c v') = T.put hp n m v' ++ t := by
  obtain ⟨k1, k2, k3⟩ := k
  rw [List.set_append_left _ _ (by simpa [Duo.put] using k2)]
  unfold Duo.put
  rw [h]
  congr 1
  refine List.ext_getElem? fun i => ?_
  by_cases h1 : n = i <;> by_cases h2 : m = i <;> simp_all []

theorem Duo.only_o (k : Three hp n m) (h : T.c v' = T.c v) : Only (some n) (T.put hp n m v ++ t) (T.put hp n m v' ++ t) := by
  rw [← Duo.set_o k h]
  exact Only_set

open Classical in
noncomputable def specT (T : Duo ρ) (args : α → List DV) (f : ρ → α → Prop × DV × ρ) : List DV → List DObj → Res := fun a hp =>
  if h : ∃ x : Nat × Nat × ρ × α, a = .ptr x.1 1 0 0 :: args x.2.2.2 ∧ T.is hp x.1 x.2.1 x.2.2.1 then
    ⟨(f h.choose.2.2.1 h.choose.2.2.2).1, (f h.choose.2.2.1 h.choose.2.2.2).2.1, T.put hp h.choose.1 h.choose.2.1 (f h.choose.2.2.1 h.choose.2.2.2).2.2⟩
  else no
theorem specT_at {args : α → List DV} (hT : T.ok) (ha : InjL args) (f : ρ → α → Prop × DV × ρ) (hi : T.is hp n m v) (a : α) :
    specT T args f (.ptr n 1 0 0 :: args a) hp = ⟨(f v a).1, (f v a).2.1, T.put hp n m (f v a).2.2⟩ := by
  unfold specT
  have hx : ∃ x : Nat × Nat × ρ × α, .ptr n 1 0 0 :: args a = .ptr x.1 1 0 0 :: args x.2.2.2 ∧ T.is hp x.1 x.2.1 x.2.2.1 := ⟨(n, m, v, a), rfl, hi⟩
  rw [dif_pos hx]
  have hy := hx.choose_spec
  generalize hx.choose = y at hy
  obtain ⟨n', m', v', a'⟩ := y
  obtain ⟨h1, h2⟩ := hy
  simp only [List.cons.injEq, DV.ptr.injEq, and_true] at h1
  obtain ⟨rfl, h3⟩ := h1
  have := ha _ _ h3
  subst this
  have e1 := Option.some.inj (hi.1.symm.trans h2.1)
  have e2 := hT.inj1 _ _ _ _ e1
  simp only at e2
  subst e2
  have e3 := Option.some.inj (hi.2.1.symm.trans h2.2.1)
  have e4 := hT.inj2 _ _ _ e1 e3
  simp only at e4
  subst e4
  rfl
theorem specT_run {args : α → List DV} (hT : T.ok) (ha : InjL args) (f : ρ → α → Prop × DV × ρ) (k : Three hp n m) (a : α) :
    specT T args f (.ptr n 1 0 0 :: args a) (T.put hp n m v ++ t) = ⟨(f v a).1, (f v a).2.1, T.put hp n m (f v a).2.2 ++ t⟩ := by
  rw [specT_at hT ha f (Duo.put_is k), Duo.put_put k]

/-- What is asked of a method's end. -/
def EndT (T : Duo ρ) (res : List DR) (r : DV) (hp : List DObj) (n m : Nat) (v : ρ) : DExit → DS → Prop
  | .exit _, _ => False
  | _, s => (retV s res).1 ∧ (retV s res).2 = r ∧ ∃ u t, s.hp = T.put hp n m u ++ t ∧ u = v
theorem endT_ret {res : List DR} {r : DV} {s : DS} : EndT T res r hp n m v .ret s = ((retV s res).1 ∧ (retV s res).2 = r ∧ ∃ u t, s.hp = T.put hp n m u ++ t ∧ u = v) := rfl
end

theorem dwp_mono {C : Orc} {h0 : Nat} {c : DCode} {Q Q' : DExit → DS → Prop} {s : DS} (h : ∀ e s, Q e s → Q' e s) (k : dwp C h0 c Q s) : dwp C h0 c Q' s := by
  exact dwp_mono' c Q Q' s h k

theorem OkH.mkT [Inhabited Env] {P : Program} {ps hs} {fn : FuncId} {d : DFun} {N : Nat} {ρ α : Type} {T : Duo ρ} {args : α → List DV} {f : ρ → α → Prop × DV × ρ} (hT : T.ok) (h1 : AllP P ps) (h2 : AllH P hs) (hm : mFun P fn N d = true)
    (hN : ∀ a, (args a).length + 1 = N) (hr : ∀ v a k, ((f v a).2.1).inB k = true)
    (k : ∀ n m hp v a, Three hp n m → (f v a).1 → dwp (Orc.of ps hs) hp.length d.code (EndT T d.res (f v a).2.1 hp n m (f v a).2.2) ⟨(0, .ptr n 1 0 0) :: frameFrom 1 (args a), T.put hp n m v ++ []⟩) : OkH P fn (specT T args f) := by
  intro a hp hpre
  unfold specT at hpre ⊢
  split at hpre
  · rename_i hx
    rw [dif_pos hx]
    have hy := hx.choose_spec
    generalize hx.choose = y at hy hpre ⊢
    obtain ⟨n, m, v, b⟩ := y
    obtain ⟨rfl, hi⟩ := hy
    simp only at hi hpre ⊢
    have h3 := Duo.is_three hi
    have := k n m hp v b h3 hpre
    rw [Duo.is_put hi, List.append_nil] at this
    refine tellsH_ofC (of_ok h1 h2) (by rw [List.length_cons, hN]; exact hm) (dwp_mono (fun e s hq => ?_) this)
    have key : ((retV s d.res).1 ∧ (retV s d.res).2 = (f v b).2.1 ∧ ∃ u t, s.hp = T.put hp n m u ++ t ∧ u = (f v b).2.2) →
        ((retV s d.res).1 ∧ (retV s d.res).2 = (f v b).2.1 ∧ ((f v b).2.1).inB hp.length = true ∧ (T.put hp n m (f v b).2.2).length = hp.length ∧ (∃ t, s.hp = T.put hp n m (f v b).2.2 ++ t) ∧ ∀ (i : Nat) (o : DObj), (T.put hp n m (f v b).2.2)[i]? = some o → hp[i]? = some o ∨ o.cut hp.length = o) := by
      rintro ⟨q1, q2, u, t, q3, rfl⟩
      refine ⟨q1, q2, hr _ _ _, Duo.put_len, ⟨t, q3⟩, fun i o ho => ?_⟩
      simp only [Duo.put, List.getElem?_set, List.length_set] at ho
      split at ho
      · simp only [h3.1, if_true, Option.some.injEq] at ho
        subst ho
        exact .inr (hT.cut1 _ _ _ h3.2.1)
      · split at ho
        · simp only [h3.2.1, if_true, Option.some.injEq] at ho
          subst ho
          exact .inr (hT.cut2 _ _)
        · exact .inl ho
    cases e with
    | normal => exact key hq
    | exit id => exact hq.elim
    | ret => exact key hq
  · exact hpre.elim
end Go.Nk
