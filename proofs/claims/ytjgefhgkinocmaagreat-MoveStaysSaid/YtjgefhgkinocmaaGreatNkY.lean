/- Functions each by itself: what one tells, and an oracle of those that a body calls; what a function tells, over encodings. -/
import Derived.Test.YtjgefhgkinocmaaGreatNkX
set_option linter.all false
namespace Go.Nk

def OkP [Inhabited Env] (P : Program) (f : FuncId) (s : List DV → Prop × DV) : Prop := ∀ a, (s a).1 → callOk P f = true ∧ TellsP P f a (s a).2
def OkH [Inhabited Env] (P : Program) (f : FuncId) (s : List DV → List DObj → Res) : Prop := ∀ a hp, (s a hp).pre → callOk P f = true ∧ TellsH P f a hp (s a hp).val (s a hp).hp

def pOf : List (FuncId × (List DV → Prop × DV)) → FuncId → List DV → Prop × DV
  | [], _, _ => (False, .undef)
  | (f, s) :: r, g, a => if g = f then s a else pOf r g a
def hOf : List (FuncId × (List DV → List DObj → Res)) → FuncId → List DV → List DObj → Res
  | [], _, _, _ => no
  | (f, s) :: r, g, a, hp => if g = f then s a hp else hOf r g a hp

/-- An oracle of these. -/
def iOf : List (FuncId × (List DV → Prop × List (List DV))) → FuncId → List DV → Prop × List (List DV)
  | [], _, _ => (False, [])
  | (f, s) :: r, g, a => if g = f then s a else iOf r g a
def Orc.ofI (ps : List (FuncId × (List DV → Prop × DV))) (hs : List (FuncId × (List DV → List DObj → Res))) (is : List (FuncId × (List DV → Prop × List (List DV)))) : Orc := ⟨pOf ps, hOf hs, iOf is⟩
def Orc.of (ps : List (FuncId × (List DV → Prop × DV))) (hs : List (FuncId × (List DV → List DObj → Res))) : Orc := Orc.ofI ps hs []

theorem of_p (ps hs) (f : FuncId) (a : List DV) : (Orc.of ps hs).p f a = pOf ps f a := rfl
theorem of_h (ps hs) (f : FuncId) (a : List DV) (hp : List DObj) : (Orc.of ps hs).h f a hp = hOf hs f a hp := rfl
theorem pOf_cons (f : FuncId) (s : List DV → Prop × DV) (r) (g : FuncId) (a : List DV) : pOf ((f, s) :: r) g a = if g = f then s a else pOf r g a := rfl
theorem hOf_cons (f : FuncId) (s : List DV → List DObj → Res) (r) (g : FuncId) (a : List DV) (hp : List DObj) : hOf ((f, s) :: r) g a hp = if g = f then s a hp else hOf r g a hp := rfl

def AllP [Inhabited Env] (P : Program) : List (FuncId × (List DV → Prop × DV)) → Prop
  | [] => True
  | (f, s) :: r => OkP P f s ∧ AllP P r
def AllH [Inhabited Env] (P : Program) : List (FuncId × (List DV → List DObj → Res)) → Prop
  | [] => True
  | (f, s) :: r => OkH P f s ∧ AllH P r

def OkI [Inhabited Env] (P : Program) (f : FuncId) (s : List DV → Prop × List (List DV)) : Prop := ∀ a, (s a).1 → callOk P f = true ∧ TellsI P f a (s a).2
def AllI [Inhabited Env] (P : Program) : List (FuncId × (List DV → Prop × List (List DV))) → Prop
  | [] => True
  | (f, s) :: r => OkI P f s ∧ AllI P r
theorem ofI_ok [Inhabited Env] {P : Program} {ps hs is} (h1 : AllP P ps) (h2 : AllH P hs) (h3 : AllI P is) : (Orc.ofI ps hs is).ok P := by
  refine ⟨?_, ?_, ?_⟩
  · intro f a h
    change (pOf ps f a).1 at h
    change callOk P f = true ∧ TellsP P f a (pOf ps f a).2
    induction ps with
    | nil => exact h.elim
    | cons x r ih =>
      obtain ⟨g, s⟩ := x
      simp only [pOf_cons] at h ⊢ ih
      by_cases e : f = g
      · simp only [if_pos e] at h ⊢
        subst e
        exact h1.1 a h
      · simp only [if_neg e] at h ⊢
        exact ih h1.2 h
  · intro f a hp h
    change (hOf hs f a hp).pre at h
    change callOk P f = true ∧ TellsH P f a hp (hOf hs f a hp).val (hOf hs f a hp).hp
    induction hs with
    | nil => exact h.elim
    | cons x r ih =>
      obtain ⟨g, s⟩ := x
      simp only [hOf_cons] at h ⊢ ih
      by_cases e : f = g
      · simp only [if_pos e] at h ⊢
        subst e
        exact h2.1 a hp h
      · simp only [if_neg e] at h ⊢
        exact ih h2.2 h
  · intro f a h
    change (iOf is f a).1 at h
    change callOk P f = true ∧ TellsI P f a (iOf is f a).2
    induction is with
    | nil => exact h.elim
    | cons x r ih =>
      obtain ⟨g, s⟩ := x
      simp only [iOf] at h ⊢ ih
      by_cases e : f = g
      · simp only [if_pos e] at h ⊢
        subst e
        exact h3.1 a h
      · simp only [if_neg e] at h ⊢
        exact ih h3.2 h
theorem of_ok [Inhabited Env] {P : Program} {ps hs} (h1 : AllP P ps) (h2 : AllH P hs) : (Orc.of ps hs).ok P := ofI_ok h1 h2 trivial

/-- A function from what its body does. -/
theorem OkP.mk [Inhabited Env] {P : Program} {ps hs} {f : FuncId} {s : List DV → Prop × DV} {d : DFun} {n : Nat} (h1 : AllP P ps) (h2 : AllH P hs) (hm : mFun P f n d = true)
    (h : ∀ args, (s args).1 → args.length = n ∧ dwp (Orc.of ps hs) 0 d.code (EndP d.res (s args).2) ⟨frameFrom 0 args, []⟩) : OkP P f s := by
  intro a ha
  obtain ⟨e, hw⟩ := h a ha
  exact tellsP_of (of_ok h1 h2) (by rw [e]; exact hm) hw

theorem OkH.mk [Inhabited Env] {P : Program} {ps hs} {f : FuncId} {s : List DV → List DObj → Res} {d : DFun} {n : Nat} (h1 : AllP P ps) (h2 : AllH P hs) (hm : mFun P f n d = true)
    (h : ∀ args hp, (s args hp).pre → args.length = n ∧ dwp (Orc.of ps hs) hp.length d.code (EndH d.res (s args hp).val (s args hp).hp) ⟨frameFrom 0 args, hp⟩) : OkH P f s := by
  intro a hp ha
  obtain ⟨e, hw⟩ := h a hp ha
  exact tellsH_of (of_ok h1 h2) (by rw [e]; exact hm) hw

/-! What a function tells, over encodings of what it takes. -/
def Inj {α : Type} (e : α → DV) : Prop := ∀ x y, e x = e y → x = y

open Classical in
noncomputable def spec0 (r : Prop × DV) : List DV → Prop × DV := fun args => if args = [] then r else (False, .undef)
open Classical in
noncomputable def spec1 {α : Type} (e : α → DV) (f : α → Prop × DV) : List DV → Prop × DV := fun args =>
  if h : ∃ a, args = [e a] then f h.choose else (False, .undef)
open Classical in
noncomputable def spec2 {α β : Type} (e : α → DV) (e' : β → DV) (f : α → β → Prop × DV) : List DV → Prop × DV := fun args =>
  if h : ∃ x : α × β, args = [e x.1, e' x.2] then f h.choose.1 h.choose.2 else (False, .undef)
open Classical in
noncomputable def spec3 {α β γ : Type} (e : α → DV) (e' : β → DV) (e'' : γ → DV) (f : α → β → γ → Prop × DV) : List DV → Prop × DV := fun args =>
  if h : ∃ x : α × β × γ, args = [e x.1, e' x.2.1, e'' x.2.2] then f h.choose.1 h.choose.2.1 h.choose.2.2 else (False, .undef)
open Classical in
noncomputable def spec4 {α β γ δ : Type} (e : α → DV) (e' : β → DV) (e'' : γ → DV) (e3 : δ → DV) (f : α → β → γ → δ → Prop × DV) : List DV → Prop × DV := fun args =>
  if h : ∃ x : α × β × γ × δ, args = [e x.1, e' x.2.1, e'' x.2.2.1, e3 x.2.2.2] then f h.choose.1 h.choose.2.1 h.choose.2.2.1 h.choose.2.2.2 else (False, .undef)

theorem spec0_at (r : Prop × DV) : spec0 r [] = r := by simp [spec0]
theorem spec1_at {α : Type} {e : α → DV} (h : Inj e) (f : α → Prop × DV) (a : α) : spec1 e f [e a] = f a := by
  unfold spec1
  have hx : ∃ b, [e a] = [e b] := ⟨a, rfl⟩
  rw [dif_pos hx]
  have hy := hx.choose_spec
  generalize hx.choose = x at hy ⊢
  rw [h _ _ (List.cons.inj hy).1]
theorem spec2_at {α β : Type} {e : α → DV} {e' : β → DV} (h : Inj e) (h' : Inj e') (f : α → β → Prop × DV) (a : α) (b : β) : spec2 e e' f [e a, e' b] = f a b := by
  unfold spec2
  have hx : ∃ x : α × β, [e a, e' b] = [e x.1, e' x.2] := ⟨(a, b), rfl⟩
  rw [dif_pos hx]
  have hy := hx.choose_spec
  generalize hx.choose = x at hy ⊢
  have h1 := List.cons.inj hy
  rw [h _ _ h1.1, h' _ _ (List.cons.inj h1.2).1]
theorem spec3_at {α β γ : Type} {e : α → DV} {e' : β → DV} {e'' : γ → DV} (h : Inj e) (h' : Inj e') (h'' : Inj e'') (f : α → β → γ → Prop × DV) (a : α) (b : β) (c : γ) : spec3 e e' e'' f [e a, e' b, e'' c] = f a b c := by
  unfold spec3
  have hx : ∃ x : α × β × γ, [e a, e' b, e'' c] = [e x.1, e' x.2.1, e'' x.2.2] := ⟨(a, b, c), rfl⟩
  rw [dif_pos hx]
  have hy := hx.choose_spec
  generalize hx.choose = x at hy ⊢
  have h1 := List.cons.inj hy
  have h2 := List.cons.inj h1.2
  rw [h _ _ h1.1, h' _ _ h2.1, h'' _ _ (List.cons.inj h2.2).1]
theorem spec4_at {α β γ δ : Type} {e : α → DV} {e' : β → DV} {e'' : γ → DV} {e3 : δ → DV} (h : Inj e) (h' : Inj e') (h'' : Inj e'') (h3 : Inj e3) (f : α → β → γ → δ → Prop × DV) (a : α) (b : β) (c : γ) (d : δ) : spec4 e e' e'' e3 f [e a, e' b, e'' c, e3 d] = f a b c d := by
  unfold spec4
  have hx : ∃ x : α × β × γ × δ, [e a, e' b, e'' c, e3 d] = [e x.1, e' x.2.1, e'' x.2.2.1, e3 x.2.2.2] := ⟨(a, b, c, d), rfl⟩
  rw [dif_pos hx]
  have hy := hx.choose_spec
  generalize hx.choose = x at hy ⊢
  have h1 := List.cons.inj hy
  have h2 := List.cons.inj h1.2
  have h4 := List.cons.inj h2.2
  rw [h _ _ h1.1, h' _ _ h2.1, h'' _ _ h4.1, h3 _ _ (List.cons.inj h4.2).1]

section
variable {P : Program} {ps : List (FuncId × (List DV → Prop × DV))} {hs : List (FuncId × (List DV → List DObj → Res))} {g : FuncId} {d : DFun}
theorem OkP.mk0 [Inhabited Env] {r : Prop × DV} (h1 : AllP P ps) (h2 : AllH P hs) (hm : mFun P g 0 d = true)
    (k : r.1 → dwp (Orc.of ps hs) 0 d.code (EndP d.res r.2) ⟨[], []⟩) : OkP P g (spec0 r) := by
  refine OkP.mk h1 h2 hm fun args hp => ?_
  unfold spec0 at hp ⊢
  split at hp
  · rename_i h
    subst h
    rw [if_pos rfl]
    exact ⟨rfl, k hp⟩
  · exact hp.elim
theorem OkP.mk1 [Inhabited Env] {α : Type} {e : α → DV} {f : α → Prop × DV} (h1 : AllP P ps) (h2 : AllH P hs) (hm : mFun P g 1 d = true)
    (k : ∀ a, (f a).1 → dwp (Orc.of ps hs) 0 d.code (EndP d.res (f a).2) ⟨[(0, e a)], []⟩) : OkP P g (spec1 e f) := by
  refine OkP.mk h1 h2 hm fun args hp => ?_
  unfold spec1 at hp ⊢
  split at hp
  · rename_i h
    rw [dif_pos h]
    have hx := h.choose_spec
    have := k _ hp
    generalize h.choose = a at *
    subst hx
    exact ⟨rfl, this⟩
  · exact hp.elim
theorem OkP.mk2 [Inhabited Env] {α β : Type} {e : α → DV} {e' : β → DV} {f : α → β → Prop × DV} (h1 : AllP P ps) (h2 : AllH P hs) (hm : mFun P g 2 d = true)
    (k : ∀ a b, (f a b).1 → dwp (Orc.of ps hs) 0 d.code (EndP d.res (f a b).2) ⟨[(0, e a), (1, e' b)], []⟩) : OkP P g (spec2 e e' f) := by
  refine OkP.mk h1 h2 hm fun args hp => ?_
  unfold spec2 at hp ⊢
  split at hp
  · rename_i h
    rw [dif_pos h]
    have hx := h.choose_spec
    have := k _ _ hp
    generalize h.choose = a at *
    subst hx
    exact ⟨rfl, this⟩
  · exact hp.elim
theorem OkP.mk3 [Inhabited Env] {α β γ : Type} {e : α → DV} {e' : β → DV} {e'' : γ → DV} {f : α → β → γ → Prop × DV} (h1 : AllP P ps) (h2 : AllH P hs) (hm : mFun P g 3 d = true)
    (k : ∀ a b c, (f a b c).1 → dwp (Orc.of ps hs) 0 d.code (EndP d.res (f a b c).2) ⟨[(0, e a), (1, e' b), (2, e'' c)], []⟩) : OkP P g (spec3 e e' e'' f) := by
  refine OkP.mk h1 h2 hm fun args hp => ?_
  unfold spec3 at hp ⊢
  split at hp
  · rename_i h
    rw [dif_pos h]
    have hx := h.choose_spec
    have := k _ _ _ hp
    generalize h.choose = a at *
    subst hx
    exact ⟨rfl, this⟩
  · exact hp.elim
theorem OkP.mk4 [Inhabited Env] {α β γ δ : Type} {e : α → DV} {e' : β → DV} {e'' : γ → DV} {e3 : δ → DV} {f : α → β → γ → δ → Prop × DV} (h1 : AllP P ps) (h2 : AllH P hs) (hm : mFun P g 4 d = true)
    (k : ∀ a b c d', (f a b c d').1 → dwp (Orc.of ps hs) 0 d.code (EndP d.res (f a b c d').2) ⟨[(0, e a), (1, e' b), (2, e'' c), (3, e3 d')], []⟩) : OkP P g (spec4 e e' e'' e3 f) := by
  refine OkP.mk h1 h2 hm fun args hp => ?_
  unfold spec4 at hp ⊢
  split at hp
  · rename_i h
    rw [dif_pos h]
    have hx := h.choose_spec
    have := k _ _ _ _ hp
    generalize h.choose = a at *
    subst hx
    exact ⟨rfl, this⟩
  · exact hp.elim
end

/-- What a comparison tells of what is the same. -/
noncomputable def specE {α : Type} (e : α → DV) (W : α → Prop) : List DV → Prop × DV := fun args => (∃ x, args = [e x, e x] ∧ W x, .bool true)
theorem specE_at {α : Type} (e : α → DV) {W : α → Prop} {x : α} (h : W x) : specE e W [e x, e x] = (True, .bool true) := by
  unfold specE
  exact congrArg (·, DV.bool true) (eq_true ⟨x, rfl, h⟩)
theorem OkP.mkE [Inhabited Env] {P : Program} {ps hs} {g : FuncId} {d : DFun} {α : Type} {e : α → DV} {W : α → Prop} (h1 : AllP P ps) (h2 : AllH P hs) (hm : mFun P g 2 d = true)
    (k : ∀ x, W x → dwp (Orc.of ps hs) 0 d.code (EndP d.res (.bool true)) ⟨[(0, e x), (1, e x)], []⟩) : OkP P g (specE e W) := by
  refine OkP.mk h1 h2 hm fun args hp => ?_
  obtain ⟨x, rfl, hx⟩ := hp
  exact ⟨rfl, k x hx⟩
theorem map_getD {α : Type} (c : α → List DV) {l : List α} {k : Nat} {x : α} (h : l[k]? = some x) : (l.map c).getD k [] = c x := by
  simp [List.getD, h]
/-! Methods: what a function tells, and makes, of the struct behind its first argument. -/
def InjL {α β : Type} (c : α → β) : Prop := ∀ x y, c x = c y → x = y

theorem Only_set {n : Nat} {hp : List DObj} {o : DObj} : Only (some n) hp (hp.set n o) := by
  intro h _ e
  have : n ≠ h := fun c => e (congrArg some c)
  rw [List.getElem?_set_ne this]
theorem Only_same {x : Option Nat} {hp : List DObj} : Only x hp hp := fun _ _ _ => rfl
theorem Only_zero {a b : DObj} {l l' : List DObj} (hl : l' = l) : Only (some 0) (a :: l) (b :: l') := by
  subst hl
  intro h _ e
  cases h with
  | zero => exact absurd rfl e
  | succ n => simp
theorem Only_succ {k : Nat} {a b : DObj} {l l' : List DObj} (hb : b = a) (h : Only (some k) l l') : Only (some (k + 1)) (a :: l) (b :: l') := by
  subst hb
  intro i hi e
  cases i with
  | zero => simp
  | succ n => simpa using h n (by simpa using hi) (fun c => e (by injection c with c; rw [c]))

theorem injL_unit {β : Type} (c : Unit → β) : InjL c := fun _ _ _ => rfl
theorem injL_int : InjL (fun n : Int => [DV.int .i64 n]) := fun x y h => by
  simp only [List.cons.injEq, DV.int.injEq, true_and, and_true] at h
  exact h
theorem beq_ft : (false == true) = false := rfl
theorem beq_tf : (true == false) = false := rfl
theorem bne_ft : (false != true) = true := rfl
theorem bne_tf : (true != false) = true := rfl
theorem specB1_nil (f : List UInt8 → Prop × DV) : specB1 f [.sl []] = f [] := by simp [specB1, unb]
theorem specB2_nil1 (f : List UInt8 → List UInt8 → Prop × DV) (l : List UInt8) : specB2 f [.sl [], .sl (bsl l)] = f [] l := by simp [specB2, unb, unb_bsl]
theorem specB2_nil2 (f : List UInt8 → List UInt8 → Prop × DV) (l : List UInt8) : specB2 f [.sl (bsl l), .sl []] = f l [] := by simp [specB2, unb, unb_bsl]
theorem specB2_nil3 (f : List UInt8 → List UInt8 → Prop × DV) : specB2 f [.sl [], .sl []] = f [] [] := by simp [specB2, unb]

/-! Encodings. -/
@[reducible] def eI (n : Int) : DV := .int .i64 n
@[reducible] def eB (b : Bool) : DV := .bool b
@[reducible] def eS (s : List UInt8) : DV := .str s
@[reducible] def eL {α : Type} (c : α → List DV) (l : List α) : DV := .sl (l.map c)
@[reducible] def eA {α : Type} (c : α → List DV) (x : α) : DV := .agg (c x)

theorem inj_I : Inj eI := fun _ _ h => by cases h; rfl
theorem inj_B : Inj eB := fun _ _ h => by cases h; rfl
theorem inj_S : Inj eS := fun _ _ h => by cases h; rfl
theorem map_inj {α : Type} {c : α → List DV} (hc : ∀ x y, c x = c y → x = y) : ∀ l l' : List α, l.map c = l'.map c → l = l'
  | [], [], _ => rfl
  | [], _ :: _, h => by simp at h
  | _ :: _, [], h => by simp at h
  | x :: l, y :: l', h => by
    simp only [List.map_cons, List.cons.injEq] at h
    rw [hc x y h.1, map_inj hc l l' h.2]
theorem inj_L {α : Type} {c : α → List DV} (hc : ∀ x y, c x = c y → x = y) : Inj (eL c) := fun _ _ h => by
  injection h with h
  exact map_inj hc _ _ h
theorem inj_A {α : Type} {c : α → List DV} (hc : ∀ x y, c x = c y → x = y) : Inj (eA c) := fun _ _ h => by
  injection h with h
  exact hc _ _ h
end Go.Nk
