/- Writers of sections: what was written, and whether it went well; the bytes stay where they are when it goes wrong. -/
import Derived.Test.YtfaailjhioobhaaGreatInK
import Derived.Test.YtfaailjhioobhaaGreatSlA
import Derived.Test.YtfaailjhioobhaaGreatCrI
set_option linter.all false
set_option maxRecDepth 20000
namespace Go.Proofs.YtfaailjhioobhaaGreat
open Go.Nk

structure SW where
  b : List UInt8
  ok : Bool
def rowW (g : Bool) (m : Nat) (s : SW) : List DV := if s.ok then [.own m s.b.length 0 s.b.length, .bool g] else [.nil, .bool (!g)]
def hx (g : Bool) (hp : List DObj) (n m : Nat) (s : SW) : List DObj := (hp.set m ⟨.imm, 1, bsl s.b⟩).set n ⟨.loc, 2, [rowW g m s]⟩
def nxW (s : SW) (f : List UInt8 → WS) : SW := if s.ok then (match f s.b with | some b' => ⟨b', true⟩ | none => ⟨s.b, false⟩) else s
def stNum (k z : Int) (s : SW) : SW := nxW s fun b => wNum b k z
def stInt (x : Int) (s : SW) : SW := nxW s fun b => wLen b (intF x) 1
def stText (c : List UInt8) (s : SW) : SW := nxW s fun b => wLen b c 2
def stPart (c : List UInt8) (s : SW) : SW := nxW s fun b => wLen b c 4

section
variable {g : Bool} {hp t : List DObj} {n m : Nat} {s : SW}
theorem hx_len : (hx g hp n m s).length = hp.length := by simp [hx]
theorem hx_ok {b : List UInt8} : hx g hp n m ⟨b, true⟩ = hw g hp n m b := rfl
theorem hx_n (h1 : n < hp.length) : (hx g hp n m s ++ t)[n]? = some ⟨.loc, 2, [rowW g m s]⟩ := by
  rw [List.getElem?_append_left (by rw [hx_len]; exact h1)]
  simp [hx, h1]
/-- What a writer's function makes of it. -/
theorem hx_spec {α : Type} {args : α → List DV} {f : List UInt8 → α → Prop × DV × WS} {d z : α → Prop × DV} (ha : InjL args) (h1 : n < hp.length) (h2 : m < hp.length) (h3 : n ≠ m) (s : SW) (t : List DObj) (a : α) {P : Prop}
    (hv : (f s.b a).2.1 = .tup []) (hd : (d a).2 = .tup []) (hp1 : (f s.b a).1 = P) (hp2 : (d a).1 = P) :
    specW g args (fW g f) d z (.ptr n 1 0 0 :: args a) (hx g hp n m s ++ t) = ⟨P, .tup [], hx g hp n m (nxW s fun b => (f b a).2.2) ++ t⟩ := by
  obtain ⟨b, ok⟩ := s
  cases ok with
  | true =>
    have hw' := hw_is (g := g) (b := b) (t := t) h1 h2 h3
    rw [hx_ok, specW_at ha hw' a]
    simp only at hv hp1
    simp only [fW, hv, hp1, nxW, if_true]
    congr 1
    cases hf : (f b a).2.2 with
    | some b' => exact hw_set h1 h2 h3
    | none =>
      show (hw g hp n m b ++ t).set n _ = _
      rw [List.set_append_left _ _ (by rw [hw_len]; exact h1)]
      congr 1
      simp only [hw, setW, hx, rowW]
      rw [List.set_set]
      rfl
  | false =>
    have hw' : isW g (hx g hp n m ⟨b, false⟩ ++ t) n 0 none := hx_n h1
    rw [specW_bad ha hw' a, hd, hp2]
    rfl
theorem hx_num (h1 : n < hp.length) (h2 : m < hp.length) (h3 : n ≠ m) (s : SW) (t : List DObj) (k z : Int) (hb : s.b.length + 4 ≤ 4294967296) (hk : k < 9223372036854775808) :
    s_wNum [.ptr n 1 0 0, .int .i64 k, .int .i64 z] (hx true hp n m s ++ t) = ⟨True, .tup [], hx true hp n m (stNum k z s) ++ t⟩ :=
  hx_spec injL_2i h1 h2 h3 s t (k, z) rfl rfl (eq_true ⟨hb, hk⟩) rfl
theorem hx_int (h1 : n < hp.length) (h2 : m < hp.length) (h3 : n ≠ m) (s : SW) (t : List DObj) (x : Int) (hb : s.b.length + 20 ≤ 4294967296) (hx' : okI64 x) :
    s_wInt [.ptr n 1 0 0, .int .i64 x] (hx true hp n m s ++ t) = ⟨True, .tup [], hx true hp n m (stInt x s) ++ t⟩ :=
  hx_spec injL_int h1 h2 h3 s t x rfl rfl (eq_true ⟨hb, hx'⟩) (eq_true hx')
theorem hx_text (h1 : n < hp.length) (h2 : m < hp.length) (h3 : n ≠ m) (s : SW) (t : List DObj) (c : List UInt8) (hb : s.b.length + c.length + 20 ≤ 4294967296) :
    s_wText [.ptr n 1 0 0, .str c] (hx true hp n m s ++ t) = ⟨True, .tup [], hx true hp n m (stText c s) ++ t⟩ :=
  hx_spec injL_str h1 h2 h3 s t c rfl rfl (eq_true hb) (eq_true (show c.length ≤ 4294967296 by omega))
theorem hx_part (h1 : n < hp.length) (h2 : m < hp.length) (h3 : n ≠ m) (s : SW) (t : List DObj) (c : List UInt8) (hb : s.b.length + c.length + 20 ≤ 4294967296) :
    s_wPart [.ptr n 1 0 0, .sl (bsl c)] (hx true hp n m s ++ t) = ⟨True, .tup [], hx true hp n m (stPart c s) ++ t⟩ :=
  hx_spec injL_bs h1 h2 h3 s t c rfl rfl (eq_true hb) (eq_true (show c.length ≤ 4294967296 by omega))
end
/-! How long it gets. -/
theorem nxW_len {s : SW} {f : List UInt8 → WS} {k : Nat} (h : ∀ b', f s.b = some b' → b'.length ≤ s.b.length + k) : (nxW s f).b.length ≤ s.b.length + k := by
  unfold nxW
  split
  · split
    · rename_i b' e; exact h b' e
    · exact Nat.le_add_right _ _
  · exact Nat.le_add_right _ _
theorem wLen_len {b c b' : List UInt8} {z : Int} (h : wLen b c z = some b') : b'.length ≤ b.length + (c.length + 4) := by
  unfold wLen at h
  cases e : wNum b c.length z with
  | none => rw [e] at h; cases h
  | some b1 =>
    rw [e] at h
    injection h with h
    have := wNum_len e
    subst h
    simp only [List.length_append]
    omega
theorem stNum_len (k z : Int) (s : SW) : (stNum k z s).b.length ≤ s.b.length + 4 := nxW_len fun _ h => wNum_len h
theorem stInt_len (x : Int) (s : SW) : (stInt x s).b.length ≤ s.b.length + 12 := by
  have := intF_length x
  exact nxW_len fun _ h => by have := wLen_len h; omega
theorem stText_len (c : List UInt8) (s : SW) : (stText c s).b.length ≤ s.b.length + (c.length + 4) := nxW_len fun _ h => wLen_len h
/-! A type -/
def stTy (t : Ty) (s : SW) : SW := stNum t.n 1 (stNum t.e 1 (stNum t.k 1 s))
theorem stTy_len (t : Ty) (s : SW) : (stTy t s).b.length ≤ s.b.length + 12 := by
  have h1 := stNum_len t.k 1 s
  have h2 := stNum_len t.e 1 (stNum t.k 1 s)
  have h3 := stNum_len t.n 1 (stNum t.e 1 (stNum t.k 1 s))
  unfold stTy
  omega
end Go.Proofs.YtfaailjhioobhaaGreat

/- A type that is written, into a writer that is well or not. -/
set_option linter.all false
set_option maxRecDepth 20000
namespace Go.Proofs.YtfaailjhioobhaaGreat
open Go.Nk

/-- A writer in a heap: its bytes' place and they, or nothing. -/
structure WT (β : Type) where
  n : Nat
  o : Option (Nat × List UInt8)
  v : β
def isO (g : Bool) (hp : List DObj) (n : Nat) : Option (Nat × List UInt8) → Prop
  | some (m, b) => isW g hp n m (some b)
  | none => isW g hp n 0 none
theorem isO_u {g : Bool} {hp : List DObj} {n : Nat} : ∀ {o o' : Option (Nat × List UInt8)}, isO g hp n o → isO g hp n o' → o = o'
  | none, none, _, _ => rfl
  | some (m, b), none, h, h' => by
    have := h.1.symm.trans (show hp[n]? = _ from h')
    simp at this
  | none, some (m, b), h, h' => by
    have := h'.1.symm.trans (show hp[n]? = _ from h)
    simp at this
  | some (m, b), some (m', b'), h, h' => by
    have h7 := h.1.symm.trans h'.1
    simp only [Option.some.injEq, DObj.mk.injEq, List.cons.injEq, DV.own.injEq, and_true, true_and] at h7
    obtain ⟨rfl, _⟩ := h7
    have h8 := h.2.1.symm.trans h'.2.1
    simp only [Option.some.injEq, DObj.mk.injEq, true_and] at h8
    rw [bsl_inj h8]
def outO (g : Bool) (hp : List DObj) (n : Nat) (f : SW → SW) : Option (Nat × List UInt8) → List DObj
  | some (m, b) => hx g hp n m (f ⟨b, true⟩)
  | none => hp
def okO (k : Nat) : Option (Nat × List UInt8) → Prop
  | some (_, b) => b.length + k ≤ 4294967296
  | none => True
/-- Of the state at hx. -/
theorem hx_O {g : Bool} {hp t : List DObj} {n m : Nat} (h1 : n < hp.length) (h2 : m < hp.length) (h3 : n ≠ m) (s : SW) : isO g (hx g hp n m s ++ t) n (if s.ok then some (m, s.b) else none) := by
  obtain ⟨b, ok⟩ := s
  cases ok with
  | true => exact hw_is h1 h2 h3
  | false => exact hx_n h1
theorem hx_hx {g : Bool} {hp t : List DObj} {n m : Nat} (h1 : n < hp.length) (h2 : m < hp.length) (h3 : n ≠ m) (s s' : SW) : hx g (hx g hp n m s ++ t) n m s' = hx g hp n m s' ++ t := by
  unfold hx
  rw [List.set_append_left _ _ (by simpa using h2), List.set_append_left _ _ (by simpa using h1)]
  congr 1
  rw [List.set_comm _ _ (Ne.symm h3), List.set_set, List.set_comm _ _ h3, List.set_set]
theorem hx_end {g : Bool} {hp : List DObj} {n m : Nat} {s : SW} (h1 : n < hp.length) (h2 : m < hp.length) : ∀ (i : Nat) (x : DObj), (hx g hp n m s)[i]? = some x → hp[i]? = some x ∨ x.cut hp.length = x := by
  intro i x hx'
  simp only [hx] at hx'
  by_cases e1 : i = n
  · subst e1
    rw [List.getElem?_set_self (by rw [List.length_set]; exact h1)] at hx'
    injection hx' with hx'; subst hx'
    refine .inr ?_
    unfold rowW
    split <;> simp [DObj.cut, DV.cut, DV.inB, h2]
  · rw [List.getElem?_set_ne (fun e => e1 e.symm)] at hx'
    by_cases e2 : i = m
    · subst e2
      rw [List.getElem?_set_self h2] at hx'
      injection hx' with hx'; subst hx'; exact .inr rfl
    · rw [List.getElem?_set_ne (fun e => e2 e.symm)] at hx'
      exact .inl hx'
theorem outO_hx {g : Bool} {hp t : List DObj} {n m : Nat} (h1 : n < hp.length) (h2 : m < hp.length) (h3 : n ≠ m) (s : SW) (f : SW → SW) (hf : s.ok = false → f s = s) :
    outO g (hx g hp n m s ++ t) n f (if s.ok then some (m, s.b) else none) = hx g hp n m (f s) ++ t := by
  obtain ⟨b, ok⟩ := s
  cases ok with
  | true => exact hx_hx h1 h2 h3 _ _
  | false => rw [hf rfl]; rfl
theorem stTy_bad {t : Ty} {s : SW} (h : s.ok = false) : stTy t s = s := by
  simp [stTy, stNum, nxW, h]

def rTyP (x : WT Ty) (a : List DV) (hp : List DObj) : Prop := a = [.agg [.ptr x.n 1 0 0], .agg (cTy x.v)] ∧ isO true hp x.n x.o
theorem rTyP_u : ∀ x y a hp, rTyP x a hp → rTyP y a hp → x = y := by
  rintro ⟨n, o, v⟩ ⟨n', o', v'⟩ a hp ⟨h1, h2⟩ ⟨h3, h4⟩
  subst h1
  simp only [List.cons.injEq, DV.agg.injEq, DV.ptr.injEq, and_true] at h3
  obtain ⟨h3, h5⟩ := h3
  subst h3
  have e1 : o = o' := isO_u h2 h4
  have e2 : v = v' := cTy_inj _ _ (by simpa [cTy] using h5)
  rw [e1, e2]
def ok3 (t : Ty) : Prop := okI64 t.k ∧ okI64 t.e ∧ okI64 t.n
noncomputable def s_wTy : List DV → List DObj → Res := specG rTyP (fun x => (okO 12 x.o ∧ ok3 x.v, .tup [])) (fun x hp => outO true hp x.n (stTy x.v) x.o)
theorem okO_hx {s : SW} {m k : Nat} (h : s.b.length + k ≤ 4294967296) : okO k (if s.ok then some (m, s.b) else none) := by
  obtain ⟨b, ok⟩ := s
  cases ok with
  | true => exact h
  | false => trivial
theorem hx_ty {hp : List DObj} {n m : Nat} (h1 : n < hp.length) (h2 : m < hp.length) (h3 : n ≠ m) (s : SW) (t : List DObj) (v : Ty) (hb : s.b.length + 12 ≤ 4294967296) (hv : ok3 v) :
    s_wTy [.agg [.ptr n 1 0 0], .agg (cTy v)] (hx true hp n m s ++ t) = ⟨True, .tup [], hx true hp n m (stTy v s) ++ t⟩ := by
  refine (specG_at (x := ⟨n, if s.ok then some (m, s.b) else none, v⟩) rTyP_u ⟨rfl, hx_O h1 h2 h3 s⟩).trans ?_
  rw [eq_true (show okO 12 (if s.ok then some (m, s.b) else none) ∧ ok3 v from ⟨okO_hx hb, hv⟩), outO_hx h1 h2 h3 s (stTy v) stTy_bad]
theorem hx_self {g : Bool} {hp : List DObj} {n m : Nat} {b : List UInt8} (h : isW g hp n m (some b)) : hx g hp n m ⟨b, true⟩ = hp := set_w h
theorem hx_b {g : Bool} {hp t : List DObj} {n m : Nat} {s : SW} {o : DObj} : (hx g hp n m s ++ (o :: t))[hp.length]? = some o := by
  rw [List.getElem?_append_right (by simp [hx_len])]; simp [hx_len]
theorem app_b {hp t : List DObj} {o : DObj} : (hp ++ (o :: t))[hp.length]? = some o := by
  rw [List.getElem?_append_right (by simp)]; simp

set_option maxHeartbeats 1000000 in
theorem ok_image_writer_ty : OkH Tryz.prog 106 s_wTy := by
  refine OkH.mkG (ps := []) (hs := [(20, s_wNum)]) trivial ⟨ok_wNum, trivial⟩ m_image_writer_ty (fun x a hp h => by rw [h.1]; rfl) (fun w a hp h hp1 => ?_)
  obtain ⟨n, o, v⟩ := w
  obtain ⟨rfl, hW⟩ := h
  obtain ⟨hb, hk, he, hn⟩ := hp1
  simp only at hb hk he hn hW ⊢
  obtain ⟨vk, ve, vn⟩ := v
  simp only at hk he hn
  
  cases o with
  | some mb =>
    obtain ⟨m, b⟩ := mb
    replace hW : isW true hp n m (some b) := hW
    have h1 := isW_lt hW
    have h2 := isW_lt2 hW
    have h3 := hW.2.2
    have hb : b.length + 12 ≤ 4294967296 := hb
    have es : (⟨frameFrom 0 [.agg [.ptr n 1 0 0], .agg (cTy ⟨vk, ve, vn⟩)], hp⟩ : DS) = ⟨frameFrom 0 [.agg [.ptr n 1 0 0], .agg (cTy ⟨vk, ve, vn⟩)], hx true hp n m ⟨b, true⟩ ++ []⟩ := by rw [List.append_nil, hx_self hW]
    rw [es]
    have l1 := stNum_len vk 1 ⟨b, true⟩
    have l2 := stNum_len ve 1 (stNum vk 1 ⟨b, true⟩)
    simp only at l1
    have q0 := fun t => hx_num h1 h2 h3 ⟨b, true⟩ t vk 1 (by show b.length + 4 ≤ _; omega) hk.2
    have q1 := fun t => hx_num h1 h2 h3 (stNum vk 1 ⟨b, true⟩) t ve 1 (by omega) he.2
    have q2 := fun t => hx_num h1 h2 h3 (stNum ve 1 (stNum vk 1 ⟨b, true⟩)) t vn 1 (by omega) hn.2
    simp only [outO, stTy]
    (have hcondQ := Bool.and_self; refine Todo.of ?_); (repeat' (first | ((with_reducible refine Todo.to ?_); (repeat (simp only [↓rP, rT, rU, dvalX, dval, frameFrom, dLoad, cellsAt, retV, retL, DV.immB, DV.one, alive, cellsOf, Nat.reduceEqDiff, Nat.reduceAdd, ↓reduceIte, reduceCtorEq, Nat.reduceLT, forall_const, d_image_writer_ty, q0, q1, q2, hx_len, hx_b, List.append_assoc, Nat.add_zero , hcondQ]))) | ((with_reducible refine And.intro ?_ ?_); · first | (trivial) | ((simp; done))) | fail))
    all_goals exact hx_end h1 h2
  | none =>
    replace hW : isW true hp n 0 none := hW
    have q0 : ∀ k t, s_wNum [.ptr n 1 0 0, .int .i64 k, .int .i64 1] (hp ++ t) = ⟨True, .tup [], hp ++ t⟩ := fun k t => s_wNum_bad (by
      show (hp ++ t)[n]? = _
      rw [List.getElem?_append_left (isW_lt hW)]; exact hW) k 1
    have es : (⟨frameFrom 0 [.agg [.ptr n 1 0 0], .agg (cTy ⟨vk, ve, vn⟩)], hp⟩ : DS) = ⟨frameFrom 0 [.agg [.ptr n 1 0 0], .agg (cTy ⟨vk, ve, vn⟩)], hp ++ []⟩ := by rw [List.append_nil]
    rw [es]
    simp only [outO]
    (have hcondQ := Bool.and_self; refine Todo.of ?_); (repeat' (first | ((with_reducible refine Todo.to ?_); (repeat (simp only [↓rP, rT, rU, dvalX, dval, frameFrom, dLoad, cellsAt, retV, retL, DV.immB, DV.one, alive, cellsOf, Nat.reduceEqDiff, Nat.reduceAdd, ↓reduceIte, reduceCtorEq, Nat.reduceLT, forall_const, d_image_writer_ty, q0, app_b, List.append_assoc, Nat.add_zero , hcondQ]))) | ((with_reducible refine And.intro ?_ ?_); · first | (trivial) | ((simp; done))) | fail))
    all_goals exact fun i x h => .inl h
end Go.Proofs.YtfaailjhioobhaaGreat

/- Sections that are written by the program. -/
set_option linter.all false
set_option maxRecDepth 20000
namespace Go.Proofs.YtfaailjhioobhaaGreat
open Go.Nk

/-! What becomes of the writer. -/
def stCt (l : List (List UInt8)) (s : SW) : SW := l.foldl (fun s c => stText c s) s
def stEn (s : SW) (e : En) : SW := stCt e.ct (stNum e.ct.length 1 (stText e.name s))
def stEns (l : List En) (s : SW) : SW := l.foldl stEn (stNum l.length 1 s)
def stPrt (s : SW) (p : Prt) : SW := stTy p.ty (stText p.name s)
def stPrts (l : List Prt) (s : SW) : SW := l.foldl stPrt (stNum l.length 1 s)
def stInts (l : List Int) (s : SW) : SW := l.foldl (fun s n => stInt n s) s
def stLocs (l : List Int) (s : SW) : SW := l.foldl (fun s n => stNum n 2 s) (stNum l.length 2 s)
/-! How long that is, at most. -/
def szCt (l : List (List UInt8)) : Nat := (l.map fun c => c.length + 4).sum
def szEn (e : En) : Nat := e.name.length + 8 + szCt e.ct
def szEns (l : List En) : Nat := (l.map szEn).sum + 4
def szPrt (p : Prt) : Nat := p.name.length + 16
def szPrts (l : List Prt) : Nat := (l.map szPrt).sum + 4
theorem szCt_cons (c : List UInt8) (l : List (List UInt8)) : szCt (c :: l) = c.length + 4 + szCt l := by simp [szCt]
theorem stCt_len : ∀ (l : List (List UInt8)) (s : SW), (stCt l s).b.length ≤ s.b.length + szCt l
  | [], s => Nat.le_refl _
  | c :: l, s => by
    have h1 := stCt_len l (stText c s)
    have h2 := stText_len c s
    rw [szCt_cons]
    show (stCt l (stText c s)).b.length ≤ _
    omega
theorem stEn_len (s : SW) (e : En) : (stEn s e).b.length ≤ s.b.length + szEn e := by
  have h1 := stCt_len e.ct (stNum e.ct.length 1 (stText e.name s))
  have h2 := stNum_len e.ct.length 1 (stText e.name s)
  have h3 := stText_len e.name s
  unfold stEn szEn
  omega
theorem stPrt_len (s : SW) (p : Prt) : (stPrt s p).b.length ≤ s.b.length + szPrt p := by
  have h1 := stTy_len p.ty (stText p.name s)
  have h2 := stText_len p.name s
  unfold stPrt szPrt
  omega

/-- A writer that is well, and an argument. -/
structure WB (β : Type) where
  n : Nat
  m : Nat
  b : List UInt8
  v : β
def rW {β : Type} (g : Bool) (args : Nat → β → List DV) (x : WB β) (a : List DV) (hp : List DObj) : Prop := a = args x.n x.v ∧ isW g hp x.n x.m (some x.b)
theorem rW_u {β : Type} {g : Bool} {args : Nat → β → List DV} (ha : ∀ n v n' v', args n v = args n' v' → n = n' ∧ v = v') : ∀ x y a hp, rW g args x a hp → rW g args y a hp → x = y := by
  rintro ⟨n, m, b, v⟩ ⟨n', m', b', v'⟩ a hp ⟨h1, h2⟩ ⟨h3, h4⟩
  obtain ⟨e1, e2⟩ := ha n v n' v' (h1.symm.trans h3)
  simp only at h2 h4
  subst e1; subst e2
  have e : some (m, b) = some (m', b') := isO_u (g := g) (hp := hp) (n := n) h2 h4
  injection e with e
  injection e with e1 e2
  subst e1; subst e2
  rfl
/-! Places behind the writer. -/
theorem hx_e {g : Bool} {hp t u : List DObj} {n m : Nat} {s : SW} {o z : DObj} : (hx g hp n m s ++ (o :: (t ++ z :: u)))[hp.length + (t.length + 1)]? = some z := by
  rw [List.getElem?_append_right (by simp [hx_len])]
  simp [hx_len]
theorem hx_se {g : Bool} {hp t u : List DObj} {n m : Nat} {s : SW} {o z z' : DObj} : (hx g hp n m s ++ (o :: (t ++ z :: u))).set (hp.length + (t.length + 1)) z' = hx g hp n m s ++ (o :: (t ++ z' :: u)) := by
  rw [List.set_append_right _ _ (by simp [hx_len])]
  simp [hx_len]

def aEns (n : Nat) (x : Img) : List DV := [.agg [.ptr n 1 0 0], .agg (cImg x)]
theorem aEns_u : ∀ n v n' v', aEns n v = aEns n' v' → n = n' ∧ v = v' := fun n v n' v' h => by
  simp only [aEns, List.cons.injEq, DV.agg.injEq, DV.ptr.injEq, and_true] at h
  exact ⟨h.1, cImg_inj _ _ (by simpa [cImg] using h.2)⟩
noncomputable def s_wEns : List DV → List DObj → Res := specG (rW true aEns) (fun x => (x.b.length + szEns x.v.en ≤ 4294967000 ∧ x.v.en.length ≤ 1000000000 ∧ ∀ e ∈ x.v.en, e.ct.length ≤ 1000000000, .tup [])) (fun x hp => hx true hp x.n x.m (stEns x.v.en ⟨x.b, true⟩))
theorem s_wEns_at {hp : List DObj} {n m : Nat} {b : List UInt8} (x : Img) (h : isW true hp n m (some b)) :
    s_wEns [.agg [.ptr n 1 0 0], .agg (cImg x)] hp = ⟨b.length + szEns x.en ≤ 4294967000 ∧ x.en.length ≤ 1000000000 ∧ ∀ e ∈ x.en, e.ct.length ≤ 1000000000, .tup [], hx true hp n m (stEns x.en ⟨b, true⟩)⟩ :=
  specG_at (x := ⟨n, m, b, x⟩) (rW_u aEns_u) ⟨rfl, h⟩
set_option maxHeartbeats 2000000 in
theorem ok_image_writer_enums : OkH Tryz.prog 52 s_wEns := by
  refine OkH.mkG (ps := []) (hs := [(20, s_wNum), (105, s_wText)]) trivial ⟨ok_wNum, ok_wText, trivial⟩ m_image_writer_enums (fun x a hp h => by rw [h.1]; rfl) (fun w a hp h hp1 => ?_)
  obtain ⟨n, m, b, x⟩ := w
  obtain ⟨rfl, hW⟩ := h
  obtain ⟨hb, hl, hct⟩ := hp1
  simp only at hb hl hct hW ⊢
  
  have h1 := isW_lt hW
  have h2 := isW_lt2 hW
  have h3 := hW.2.2
  have es : (⟨frameFrom 0 (aEns n x), hp⟩ : DS) = ⟨frameFrom 0 [.agg [.ptr n 1 0 0], .agg (cImg x)], hx true hp n m ⟨b, true⟩ ++ []⟩ := by rw [List.append_nil, hx_self hW]; rfl
  rw [es]
  obtain ⟨en, ins, outs, slots, loc, code⟩ := x
  simp only at hb hl hct ⊢
  unfold szEns at hb
  have q0 := fun t => hx_num h1 h2 h3 ⟨b, true⟩ t en.length 1 (by show b.length + 4 ≤ _; omega) (by omega)
  have l0 := stNum_len en.length 1 ⟨b, true⟩
  simp only at l0
  (have hcondQ := Bool.and_self; refine Todo.of ?_); (repeat' (first | ((with_reducible refine Todo.to ?_); (repeat (simp only [↓rP, rT, rU, dvalX, dval, frameFrom, dLoad, cellsAt, DV.immB, DV.one, alive, cellsOf, Nat.reduceEqDiff, Nat.reduceAdd, ↓reduceIte, reduceCtorEq, Nat.reduceLT, forall_const, d_image_writer_enums, q0, hx_len, hx_b, List.append_assoc, Nat.add_zero , hcondQ])))))
  refine dwp_each en (fun k (a : SW × List DObj) => ⟨[(2, .ptr hp.length 1 0 0), (15, .sl (en.map cEn)), (16, .int .i64 en.length), (17, .int .i64 k)], hx true hp n m a.1 ++ (⟨.loc, 1, [[.ptr n 1 0 0]]⟩ :: a.2)⟩) (fun k r a => a.1.b.length + (r.map szEn).sum ≤ 4294967000 ∧ r.foldl stEn a.1 = stEns en ⟨b, true⟩) (stNum en.length 1 ⟨b, true⟩, []) trivial (by simp only [cut_none, List.map_cons, List.map_nil, get_cons, Nk.get_nil, Nat.reduceEqDiff, ↓reduceIte] <;> rfl) ⟨by simp only; omega, rfl⟩ (fun k e r a d hge hd hr => ?_) fun k a hk hr => ?_
  · obtain ⟨s, t⟩ := a
    obtain ⟨hr1, hr2⟩ := hr
    simp only [List.map_cons, List.sum_cons] at hr1
    have wk := wk_of d (by omega)
    have hrow := map_getD cEn hge
    have he := hct e (List.mem_of_getElem? hge)
    obtain ⟨nm, ct⟩ := e
    simp only [szEn] at hr1 he
    have l1 := stText_len nm s
    have l2 := stNum_len ct.length 1 (stText nm s)
    have q1 := fun t => hx_text h1 h2 h3 s t nm (by omega)
    have q2 := fun t => hx_num h1 h2 h3 (stText nm s) t ct.length 1 (by omega) (by omega)
    (have hcondQ := Bool.and_self; refine Todo.of ?_); (repeat' (first | ((with_reducible refine Todo.to ?_); (repeat (simp only [↓rP, rT, rU, dvalX, dval, dBin, dInt, dLoad, cellsAt, dStore, DV.one, alive, cellsOf, setFrom, Nat.reduceEqDiff, Nat.reduceAdd, ↓reduceIte, reduceCtorEq, Nat.reduceLeDiff, Nat.reduceLT, forall_const, sls_len, d, hrow, q1, q2, hx_len, hx_b, hx_e, hx_se, List.append_assoc, Nat.add_zero ]))) | ((with_reducible refine And.intro ?_ ?_); · omega) | fail))
    refine dwp_each ct (fun j (s' : SW) => ⟨[(2, .ptr hp.length 1 0 0), (15, .sl (en.map cEn)), (16, .int .i64 en.length), (17, .int .i64 k), (33, .sl (sls ct)), (34, .int .i64 ct.length), (35, .int .i64 j)], hx true hp n m s' ++ (⟨.loc, 1, [[.ptr n 1 0 0]]⟩ :: (t ++ [⟨.loc, 2, [[.str nm, .sl (sls ct)]]⟩]))⟩) (fun j q s' => s'.b.length + szCt q + (r.map szEn).sum ≤ 4294967000 ∧ stCt q s' = stEn s ⟨nm, ct⟩) (stNum ct.length 1 (stText nm s)) trivial (by simp only [cut_none, List.map_cons, List.map_nil, get_cons, Nk.get_nil, Nat.reduceEqDiff, ↓reduceIte, Nat.succ_ne_self] <;> rfl) ⟨by omega, rfl⟩ (fun j c q s' dj hgj hdj hq => ?_) fun j s' hj hq => ?_
    · obtain ⟨hq1, hq2⟩ := hq
      rw [szCt_cons] at hq1
      have wj := wk_of dj (by omega)
      have hrj := sls_at hgj
      have l3 := stText_len c s'
      have q3 := fun t => hx_text h1 h2 h3 s' t c (by omega)
      (have hcondQ := Bool.and_self; refine Todo.of ?_); (repeat' (first | ((with_reducible refine Todo.to ?_); (repeat (simp only [↓rP, rT, rU, dvalX, dval, dBin, dInt, dLoad, cellsAt, alive, Nat.reduceEqDiff, ↓reduceIte, reduceCtorEq, sls_len, dj, wj, hrj, q3, hx_b, Nat.add_zero ]))) | ((with_reducible refine And.intro ?_ ?_); · omega) | fail))
      exact ⟨stText c s', by simp only [cut_none, List.map_cons, List.map_nil, get_cons, Nk.get_nil, Nat.reduceEqDiff, ↓reduceIte, Nat.succ_ne_self, Int.natCast_add, Int.natCast_one] <;> rfl, by omega, hq2⟩
    · obtain ⟨hq1, hq2⟩ := hq
      have hq2 : s' = stEn s ⟨nm, ct⟩ := hq2
      have dj : ¬ j < ct.length := by omega
      subst hq2
      (have hcondQ := Bool.and_self; refine Todo.of ?_); (repeat' (first | ((with_reducible refine Todo.to ?_); (repeat (simp only [↓rP, rT, rU, dvalX, dval, dBin, dInt, Nat.reduceEqDiff, ↓reduceIte, dj, wk ])))))
      exact ⟨(stEn s ⟨nm, ct⟩, t ++ [⟨.loc, 2, [[.str nm, .sl (sls ct)]]⟩]), by simp only [cut_none, List.map_cons, List.map_nil, get_cons, Nk.get_nil, Nat.reduceEqDiff, ↓reduceIte, Nat.succ_ne_self, Int.natCast_add, Int.natCast_one] <;> rfl, by simp only; omega, hr2⟩
  · have d : ¬ k < en.length := by omega
    have e : a.1 = stEns en ⟨b, true⟩ := hr.2
    (have hcondQ := Bool.and_self; refine Todo.of ?_); (repeat' (first | ((with_reducible refine Todo.to ?_); (repeat (simp only [↓rP, rT, rU, dvalX, dval, dBin, dInt, retV, retL, Nat.reduceEqDiff, ↓reduceIte, d, hx_len ]))) | ((with_reducible refine And.intro ?_ ?_); · trivial) | fail))
    rw [e]
    exact ⟨⟨_, rfl⟩, hx_end h1 h2⟩
end Go.Proofs.YtfaailjhioobhaaGreat

/- Ports and locals that are written by the program. -/
set_option linter.all false
set_option maxRecDepth 20000
namespace Go.Proofs.YtfaailjhioobhaaGreat
open Go.Nk

def aPrts (n : Nat) (l : List Prt) : List DV := [.agg [.ptr n 1 0 0], .sl (l.map cPrt)]
theorem aPrts_u : ∀ n v n' v', aPrts n v = aPrts n' v' → n = n' ∧ v = v' := fun n v n' v' h => by
  simp only [aPrts, List.cons.injEq, DV.agg.injEq, DV.ptr.injEq, DV.sl.injEq, and_true] at h
  exact ⟨h.1, map_inj cPrt_inj _ _ h.2⟩
noncomputable def s_wPrts : List DV → List DObj → Res := specG (rW true aPrts) (fun x => (x.b.length + szPrts x.v ≤ 4294967000 ∧ x.v.length ≤ 1000000000 ∧ ∀ p ∈ x.v, ok3 p.ty, .tup [])) (fun x hp => hx true hp x.n x.m (stPrts x.v ⟨x.b, true⟩))
theorem s_wPrts_at {hp : List DObj} {n m : Nat} {b : List UInt8} (l : List Prt) (h : isW true hp n m (some b)) :
    s_wPrts [.agg [.ptr n 1 0 0], .sl (l.map cPrt)] hp = ⟨b.length + szPrts l ≤ 4294967000 ∧ l.length ≤ 1000000000 ∧ ∀ p ∈ l, ok3 p.ty, .tup [], hx true hp n m (stPrts l ⟨b, true⟩)⟩ :=
  specG_at (x := ⟨n, m, b, l⟩) (rW_u aPrts_u) ⟨rfl, h⟩
set_option maxHeartbeats 2000000 in
theorem ok_image_writer_ports : OkH Tryz.prog 53 s_wPrts := by
  refine OkH.mkG (ps := []) (hs := [(20, s_wNum), (105, s_wText), (106, s_wTy)]) trivial ⟨ok_wNum, ok_wText, ok_image_writer_ty, trivial⟩ m_image_writer_ports (fun x a hp h => by rw [h.1]; rfl) (fun w a hp h hp1 => ?_)
  obtain ⟨n, m, b, l⟩ := w
  obtain ⟨rfl, hW⟩ := h
  obtain ⟨hb, hl, hty⟩ := hp1
  simp only at hb hl hty hW ⊢
  
  have h1 := isW_lt hW
  have h2 := isW_lt2 hW
  have h3 := hW.2.2
  have es : (⟨frameFrom 0 (aPrts n l), hp⟩ : DS) = ⟨frameFrom 0 [.agg [.ptr n 1 0 0], .sl (l.map cPrt)], hx true hp n m ⟨b, true⟩ ++ []⟩ := by rw [List.append_nil, hx_self hW]; rfl
  rw [es]
  unfold szPrts at hb
  have q0 := fun t => hx_num h1 h2 h3 ⟨b, true⟩ t l.length 1 (by show b.length + 4 ≤ _; omega) (by omega)
  have l0 := stNum_len l.length 1 ⟨b, true⟩
  simp only at l0
  (have hcondQ := Bool.and_self; refine Todo.of ?_); (repeat' (first | ((with_reducible refine Todo.to ?_); (repeat (simp only [↓rP, rT, rU, dvalX, dval, frameFrom, dLoad, cellsAt, DV.one, alive, cellsOf, Nat.reduceEqDiff, ↓reduceIte, reduceCtorEq, forall_const, d_image_writer_ports, q0, hx_len, hx_b, List.append_assoc, Nat.add_zero ])))))
  refine dwp_each l (fun k (a : SW × List DObj) => ⟨[(2, .ptr hp.length 1 0 0), (11, .sl (l.map cPrt)), (12, .int .i64 l.length), (13, .int .i64 k)], hx true hp n m a.1 ++ (⟨.loc, 1, [[.ptr n 1 0 0]]⟩ :: a.2)⟩) (fun k r a => a.1.b.length + (r.map szPrt).sum ≤ 4294967000 ∧ r.foldl stPrt a.1 = stPrts l ⟨b, true⟩) (stNum l.length 1 ⟨b, true⟩, []) trivial (by simp only [cut_none, List.map_cons, List.map_nil, get_cons, Nk.get_nil, Nat.reduceEqDiff, ↓reduceIte] <;> rfl) ⟨by simp only; omega, rfl⟩ (fun k e r a d hge hd hr => ?_) fun k a hk hr => ?_
  · obtain ⟨s, t⟩ := a
    obtain ⟨hr1, hr2⟩ := hr
    simp only [List.map_cons, List.sum_cons] at hr1
    have wk := wk_of d (by omega)
    have hrow := map_getD cPrt hge
    have he := hty e (List.mem_of_getElem? hge)
    obtain ⟨nm, ⟨tk, te, tn⟩⟩ := e
    simp only [szPrt] at hr1 he
    have l1 := stText_len nm s
    have l2 := stTy_len ⟨tk, te, tn⟩ (stText nm s)
    have q1 := fun t => hx_text h1 h2 h3 s t nm (by omega)
    have q2 := fun t => hx_ty h1 h2 h3 (stText nm s) t ⟨tk, te, tn⟩ (by omega) he
    (have hcondQ := Bool.and_self; refine Todo.of ?_); (repeat' (first | ((with_reducible refine Todo.to ?_); (repeat (simp only [↓rP, rT, rU, dvalX, dval, dBin, dInt, dLoad, cellsAt, dStore, DV.one, alive, cellsOf, setFrom, Nat.reduceEqDiff, Nat.reduceAdd, ↓reduceIte, reduceCtorEq, Nat.reduceLeDiff, Nat.reduceLT, forall_const, d, wk, hrow, q1, q2, hx_len, hx_b, hx_e, hx_se, List.append_assoc, Nat.add_zero ]))) | ((with_reducible refine And.intro ?_ ?_); · omega) | fail))
    exact ⟨(stPrt s ⟨nm, ⟨tk, te, tn⟩⟩, t ++ [⟨.loc, 4, [[.str nm, .int .i64 tk, .int .i64 te, .int .i64 tn]]⟩]), by simp only [cut_none, List.map_cons, List.map_nil, get_cons, Nk.get_nil, Nat.reduceEqDiff, ↓reduceIte, Nat.succ_ne_self, Int.natCast_add, Int.natCast_one] <;> rfl, by unfold stPrt; simp only; omega, hr2⟩
  · have d : ¬ k < l.length := by omega
    have e : a.1 = stPrts l ⟨b, true⟩ := hr.2
    (have hcondQ := Bool.and_self; refine Todo.of ?_); (repeat' (first | ((with_reducible refine Todo.to ?_); (repeat (simp only [↓rP, rT, rU, dvalX, dval, dBin, dInt, retV, retL, Nat.reduceEqDiff, ↓reduceIte, d, hx_len ]))) | ((with_reducible refine And.intro ?_ ?_); · trivial) | fail))
    rw [e]
    exact ⟨⟨_, rfl⟩, hx_end h1 h2⟩

noncomputable def s_wLocs : List DV → List DObj → Res := specG (rW true aEns) (fun x => (x.b.length + 4 * x.v.loc.length ≤ 4294967000 ∧ x.v.loc.length ≤ 1000000000 ∧ ∀ k ∈ x.v.loc, okI64 k, .tup [])) (fun x hp => hx true hp x.n x.m (stLocs x.v.loc ⟨x.b, true⟩))
theorem s_wLocs_at {hp : List DObj} {n m : Nat} {b : List UInt8} (x : Img) (h : isW true hp n m (some b)) :
    s_wLocs [.agg [.ptr n 1 0 0], .agg (cImg x)] hp = ⟨b.length + 4 * x.loc.length ≤ 4294967000 ∧ x.loc.length ≤ 1000000000 ∧ ∀ k ∈ x.loc, okI64 k, .tup [], hx true hp n m (stLocs x.loc ⟨b, true⟩)⟩ :=
  specG_at (x := ⟨n, m, b, x⟩) (rW_u aEns_u) ⟨rfl, h⟩
set_option maxHeartbeats 2000000 in
theorem ok_image_writer_locals : OkH Tryz.prog 55 s_wLocs := by
  refine OkH.mkG (ps := []) (hs := [(20, s_wNum)]) trivial ⟨ok_wNum, trivial⟩ m_image_writer_locals (fun x a hp h => by rw [h.1]; rfl) (fun w a hp h hp1 => ?_)
  obtain ⟨n, m, b, x⟩ := w
  obtain ⟨rfl, hW⟩ := h
  obtain ⟨hb, hl, hty⟩ := hp1
  simp only at hb hl hty hW ⊢
  
  have h1 := isW_lt hW
  have h2 := isW_lt2 hW
  have h3 := hW.2.2
  have es : (⟨frameFrom 0 (aEns n x), hp⟩ : DS) = ⟨frameFrom 0 [.agg [.ptr n 1 0 0], .agg (cImg x)], hx true hp n m ⟨b, true⟩ ++ []⟩ := by rw [List.append_nil, hx_self hW]; rfl
  rw [es]
  obtain ⟨en, ins, outs, slots, l, code⟩ := x
  simp only at hb hl hty ⊢
  have q0 := fun t => hx_num h1 h2 h3 ⟨b, true⟩ t l.length 2 (by show b.length + 4 ≤ _; omega) (by omega)
  have l0 := stNum_len l.length 2 ⟨b, true⟩
  simp only at l0
  (have hcondQ := Bool.and_self; refine Todo.of ?_); (repeat' (first | ((with_reducible refine Todo.to ?_); (repeat (simp only [↓rP, rT, rU, dvalX, dval, frameFrom, dLoad, cellsAt, DV.immB, DV.one, alive, cellsOf, Nat.reduceEqDiff, Nat.reduceAdd, ↓reduceIte, reduceCtorEq, Nat.reduceLT, forall_const, d_image_writer_locals, ils_len, q0, hx_len, hx_b, List.append_assoc, Nat.add_zero , hcondQ])))))
  refine dwp_each l (fun k (s : SW) => ⟨[(2, .ptr hp.length 1 0 0), (13, .sl (ils l)), (14, .int .i64 l.length), (15, .int .i64 k)], hx true hp n m s ++ [⟨.loc, 1, [[.ptr n 1 0 0]]⟩]⟩) (fun k r s => s.b.length + 4 * r.length ≤ 4294967100 ∧ r.foldl (fun s n => stNum n 2 s) s = stLocs l ⟨b, true⟩) (stNum l.length 2 ⟨b, true⟩) trivial (by simp only [cut_none, List.map_cons, List.map_nil, get_cons, Nk.get_nil, Nat.reduceEqDiff, ↓reduceIte] <;> rfl) ⟨by omega, rfl⟩ (fun k e r s d hge hd hr => ?_) fun k s hk hr => ?_
  · obtain ⟨hr1, hr2⟩ := hr
    simp only [List.length_cons] at hr1
    have wk := wk_of d (by omega)
    have hrow := ils_at hge
    have he := hty e (List.mem_of_getElem? hge)
    have l1 := stNum_len e 2 s
    have q1 := fun t => hx_num h1 h2 h3 s t e 2 (by omega) he.2
    (have hcondQ := Bool.and_self; refine Todo.of ?_); (repeat' (first | ((with_reducible refine Todo.to ?_); (repeat (simp only [↓rP, rT, rU, dvalX, dval, dBin, dInt, dLoad, cellsAt, alive, Nat.reduceEqDiff, ↓reduceIte, reduceCtorEq, ils_len, d, wk, hrow, q1, hx_b, Nat.add_zero ]))) | ((with_reducible refine And.intro ?_ ?_); · omega) | fail))
    exact ⟨stNum e 2 s, by simp only [cut_none, List.map_cons, List.map_nil, get_cons, Nk.get_nil, Nat.reduceEqDiff, ↓reduceIte, Nat.succ_ne_self, Int.natCast_add, Int.natCast_one] <;> rfl, by omega, hr2⟩
  · have d : ¬ k < l.length := by omega
    have e : s = stLocs l ⟨b, true⟩ := hr.2
    (have hcondQ := Bool.and_self; refine Todo.of ?_); (repeat' (first | ((with_reducible refine Todo.to ?_); (repeat (simp only [↓rP, rT, rU, dvalX, dval, dBin, dInt, retV, retL, Nat.reduceEqDiff, ↓reduceIte, d, hx_len ]))) | ((with_reducible refine And.intro ?_ ?_); · trivial) | fail))
    rw [e]
    exact ⟨⟨_, rfl⟩, hx_end h1 h2⟩
end Go.Proofs.YtfaailjhioobhaaGreat

/- Slots that are written by the program. -/
set_option linter.all false
set_option maxRecDepth 20000
namespace Go.Proofs.YtfaailjhioobhaaGreat
open Go.Nk

def stSl0 (s : SW) (x : Slt) : SW := stInts x.ini (stNum x.ini.length 1 (stTy x.ty (stText x.path s)))
def stSlt (a : SW × Int) (x : Slt) : SW × Int := (if x.at_ = a.2 then stSl0 a.1 x else stNum (-1) 1 (stSl0 a.1 x), a.2 + cellsTy x.ty)
def stSlts (l : List Slt) (s : SW) : SW := (l.foldl stSlt (stNum l.length 1 s, 0)).1
def szSlt (x : Slt) : Nat := x.path.length + 40 + 12 * x.ini.length
def szSlts (l : List Slt) : Nat := (l.map szSlt).sum + 4
theorem cells_rng (t : Ty) : 1 ≤ cellsTy t ∧ cellsTy t ≤ 8 := by unfold cellsTy; split <;> (try split) <;> omega
theorem stInts_len : ∀ (l : List Int) (s : SW), (stInts l s).b.length ≤ s.b.length + 12 * l.length
  | [], s => Nat.le_refl _
  | c :: l, s => by
    have h1 := stInts_len l (stInt c s)
    have h2 := stInt_len c s
    show (stInts l (stInt c s)).b.length ≤ _
    simp only [List.length_cons]
    omega
theorem stSlt_len (a : SW × Int) (x : Slt) : (stSlt a x).1.b.length ≤ a.1.b.length + szSlt x := by
  have h1 := stText_len x.path a.1
  have h2 := stTy_len x.ty (stText x.path a.1)
  have h3 := stNum_len x.ini.length 1 (stTy x.ty (stText x.path a.1))
  have h4 := stInts_len x.ini (stNum x.ini.length 1 (stTy x.ty (stText x.path a.1)))
  have h5 := stNum_len (-1) 1 (stSl0 a.1 x)
  unfold stSlt szSlt
  simp only
  split
  · unfold stSl0; omega
  · unfold stSl0 at h5 ⊢; omega
noncomputable def s_wSlts : List DV → List DObj → Res := specG (rW true aEns) (fun x => (x.b.length + szSlts x.v.slots ≤ 4294967000 ∧ x.v.slots.length ≤ 1000000000 ∧ ∀ p ∈ x.v.slots, ok3 p.ty ∧ p.ini.length ≤ 1000000000 ∧ ∀ n ∈ p.ini, okI64 n, .tup [])) (fun x hp => hx true hp x.n x.m (stSlts x.v.slots ⟨x.b, true⟩))
theorem s_wSlts_at {hp : List DObj} {n m : Nat} {b : List UInt8} (x : Img) (h : isW true hp n m (some b)) :
    s_wSlts [.agg [.ptr n 1 0 0], .agg (cImg x)] hp = ⟨b.length + szSlts x.slots ≤ 4294967000 ∧ x.slots.length ≤ 1000000000 ∧ ∀ p ∈ x.slots, ok3 p.ty ∧ p.ini.length ≤ 1000000000 ∧ ∀ n ∈ p.ini, okI64 n, .tup [], hx true hp n m (stSlts x.slots ⟨b, true⟩)⟩ :=
  specG_at (x := ⟨n, m, b, x⟩) (rW_u aEns_u) ⟨rfl, h⟩
set_option maxHeartbeats 4000000 in
theorem ok_image_writer_slots : OkH Tryz.prog 54 s_wSlts := by
  refine OkH.mkG (ps := [(88, s_CellsTy)]) (hs := [(20, s_wNum), (105, s_wText), (107, s_wInt), (106, s_wTy)]) ⟨ok_CellsTy, trivial⟩ ⟨ok_wNum, ok_wText, ok_wInt, ok_image_writer_ty, trivial⟩ m_image_writer_slots (fun x a hp h => by rw [h.1]; rfl) (fun w a hp h hp1 => ?_)
  obtain ⟨n, m, b, x⟩ := w
  obtain ⟨rfl, hW⟩ := h
  obtain ⟨hb, hl, hty⟩ := hp1
  simp only at hb hl hty hW ⊢
  
  have h1 := isW_lt hW
  have h2 := isW_lt2 hW
  have h3 := hW.2.2
  have es : (⟨frameFrom 0 (aEns n x), hp⟩ : DS) = ⟨frameFrom 0 [.agg [.ptr n 1 0 0], .agg (cImg x)], hx true hp n m ⟨b, true⟩ ++ []⟩ := by rw [List.append_nil, hx_self hW]; rfl
  rw [es]
  obtain ⟨en, ins, outs, l, loc, code⟩ := x
  simp only at hb hl hty ⊢
  unfold szSlts at hb
  have q0 := fun t => hx_num h1 h2 h3 ⟨b, true⟩ t l.length 1 (by show b.length + 4 ≤ _; omega) (by omega)
  have l0 := stNum_len l.length 1 ⟨b, true⟩
  simp only at l0
  (have hcondQ := Bool.and_self; refine Todo.of ?_); (repeat' (first | ((with_reducible refine Todo.to ?_); (repeat (simp only [↓rP, rT, rU, dvalX, dval, frameFrom, dLoad, cellsAt, DV.immB, DV.one, alive, cellsOf, Nat.reduceEqDiff, Nat.reduceAdd, ↓reduceIte, reduceCtorEq, Nat.reduceLT, Int.reduceNeg, forall_const, d_image_writer_slots, q0, hx_len, hx_b, List.append_assoc, Nat.add_zero , hcondQ])))))
  refine dwp_each l (fun k (a : (SW × Int) × List DObj) => ⟨[(2, .ptr hp.length 1 0 0), (4, .int .i64 a.1.2), (16, .sl (l.map cSlt)), (17, .int .i64 l.length), (18, .int .i64 k)], hx true hp n m a.1.1 ++ (⟨.loc, 1, [[.ptr n 1 0 0]]⟩ :: a.2)⟩)
    (fun k r a => a.1.1.b.length + (r.map szSlt).sum ≤ 4294967000 ∧ r.foldl stSlt a.1 = l.foldl stSlt (stNum l.length 1 ⟨b, true⟩, 0) ∧ 0 ≤ a.1.2 ∧ a.1.2 ≤ 8 * (k : Int)) ((stNum l.length 1 ⟨b, true⟩, 0), []) trivial (by simp only [cut_none, List.map_cons, List.map_nil, get_cons, Nk.get_nil, Nat.reduceEqDiff, ↓reduceIte] <;> rfl) ⟨by simp only; omega, rfl, by simp only; omega, by simp only; omega⟩ (fun k e r a d hge hd hr => ?_) fun k a hk hr => ?_
  · obtain ⟨⟨s, at_⟩, t⟩ := a
    obtain ⟨hr1, hr2, hr3, hr4⟩ := hr
    simp only [List.map_cons, List.sum_cons] at hr1 hr3 hr4
    have wk := wk_of d (by omega)
    have hrow := map_getD cSlt hge
    obtain ⟨he, hi1, hi2⟩ := hty e (List.mem_of_getElem? hge)
    have cr := cells_rng e.ty
    have ec := s_CellsTy_at e.ty
    have lS := stSlt_len (s, at_) e
    obtain ⟨nm, ⟨tk, te, tn⟩, ea, ini⟩ := e
    simp only [szSlt] at hr1 he hi1 hi2 cr ec lS
    have wa : IntKind.i64.wrap (at_ + cellsTy ⟨tk, te, tn⟩) = at_ + cellsTy ⟨tk, te, tn⟩ := wrap_i64_id (by omega)
    have l1 := stText_len nm s
    have l2 := stTy_len ⟨tk, te, tn⟩ (stText nm s)
    have l3 := stNum_len ini.length 1 (stTy ⟨tk, te, tn⟩ (stText nm s))
    have q1 := fun t => hx_text h1 h2 h3 s t nm (by omega)
    have q2 := fun t => hx_ty h1 h2 h3 (stText nm s) t ⟨tk, te, tn⟩ (by omega) he
    have q3 := fun t => hx_num h1 h2 h3 (stTy ⟨tk, te, tn⟩ (stText nm s)) t ini.length 1 (by omega) (by omega)
    (have hcondQ := Bool.and_self; refine Todo.of ?_); (repeat' (first | ((with_reducible refine Todo.to ?_); (repeat (simp only [↓rP, rT, rU, dvalX, dval, dBin, dInt, dLoad, cellsAt, dStore, DV.one, alive, cellsOf, setFrom, Nat.reduceEqDiff, Nat.reduceAdd, ↓reduceIte, reduceCtorEq, Nat.reduceLeDiff, Nat.reduceLT, Int.reduceNeg, forall_const, ils_len, d, hrow, q1, q2, q3, hx_len, hx_b, hx_e, hx_se, List.append_assoc, Nat.add_zero ]))) | ((with_reducible refine And.intro ?_ ?_); · omega) | fail))
    refine dwp_each ini (fun j (s' : SW) => ⟨[(2, .ptr hp.length 1 0 0), (4, .int .i64 at_), (6, .ptr (hp.length + (t.length + 1)) 1 0 0), (16, .sl (l.map cSlt)), (17, .int .i64 l.length), (18, .int .i64 k), (38, .sl (ils ini)), (39, .int .i64 ini.length), (40, .int .i64 j)],
        hx true hp n m s' ++ (⟨.loc, 1, [[.ptr n 1 0 0]]⟩ :: (t ++ [⟨.loc, 6, [[.str nm, .int .i64 tk, .int .i64 te, .int .i64 tn, .int .i64 ea, .sl (ils ini)]]⟩]))⟩) (fun j q s' => s'.b.length + 12 * q.length + 10 + (r.map szSlt).sum ≤ 4294967000 ∧ stInts q s' = stSl0 s ⟨nm, ⟨tk, te, tn⟩, ea, ini⟩) (stNum ini.length 1 (stTy ⟨tk, te, tn⟩ (stText nm s))) trivial (by simp only [cut_none, List.map_cons, List.map_nil, get_cons, Nk.get_nil, Nat.reduceEqDiff, ↓reduceIte, Nat.succ_ne_self] <;> rfl) ⟨by omega, rfl⟩ (fun j c q s' dj hgj hdj hq => ?_) fun j s' hj hq => ?_
    · obtain ⟨hq1, hq2⟩ := hq
      simp only [List.length_cons] at hq1
      have wj := wk_of dj (by omega)
      have hrj := ils_at hgj
      have l3 := stInt_len c s'
      have q3 := fun t => hx_int h1 h2 h3 s' t c (by omega) (hi2 c (List.mem_of_getElem? hgj))
      (have hcondQ := Bool.and_self; refine Todo.of ?_); (repeat' (first | ((with_reducible refine Todo.to ?_); (repeat (simp only [↓rP, rT, rU, dvalX, dval, dBin, dInt, dLoad, cellsAt, alive, Nat.reduceEqDiff, ↓reduceIte, reduceCtorEq, Int.reduceNeg, ils_len, dj, wj, hrj, q3, hx_b, Nat.add_zero ]))) | ((with_reducible refine And.intro ?_ ?_); · omega) | fail))
      exact ⟨stInt c s', by simp only [cut_none, List.map_cons, List.map_nil, get_cons, Nk.get_nil, Nat.reduceEqDiff, ↓reduceIte, Nat.succ_ne_self, Int.natCast_add, Int.natCast_one] <;> rfl, by omega, hq2⟩
    · obtain ⟨hq1, hq2⟩ := hq
      have hq2 : s' = stSl0 s ⟨nm, ⟨tk, te, tn⟩, ea, ini⟩ := hq2
      have dj : ¬ j < ini.length := by omega
      subst hq2
      have q4 := fun t => hx_num h1 h2 h3 (stSl0 s ⟨nm, ⟨tk, te, tn⟩, ea, ini⟩) t (-1) 1 (by omega) (by omega)
      by_cases eq : ea = at_
      · subst eq
        (have hcondQ := Bool.and_self; refine Todo.of ?_); (repeat' (first | ((with_reducible refine Todo.to ?_); (repeat (simp only [↓rP, rT, rU, dvalX, dval, dBin, dInt, dLoad, cellsAt, DV.immB, dCallP, viewVs, viewV, view1, viewL, noMemV, noMem, alive, Nat.reduceEqDiff, Nat.reduceAdd, ↓reduceIte, reduceCtorEq, Nat.reduceLeDiff, Nat.reduceLT, Int.reduceNeg, dj, wk, ec, wa, hx_e ])))))
        exact ⟨(stSlt (s, ea) ⟨nm, ⟨tk, te, tn⟩, ea, ini⟩, t ++ [⟨.loc, 6, [[.str nm, .int .i64 tk, .int .i64 te, .int .i64 tn, .int .i64 ea, .sl (ils ini)]]⟩]), by simp only [stSlt, if_true]; exact by simp only [cut_none, List.map_cons, List.map_nil, get_cons, Nk.get_nil, Nat.reduceEqDiff, ↓reduceIte, Nat.succ_ne_self, Int.natCast_add, Int.natCast_one] <;> rfl, by simp only; omega, hr2, by simp only [stSlt]; omega, by simp only [stSlt]; omega⟩
      · (have hcondQ := Bool.and_self; refine Todo.of ?_); (repeat' (first | ((with_reducible refine Todo.to ?_); (repeat (simp only [↓rP, rT, rU, dvalX, dval, dBin, dInt, dLoad, cellsAt, DV.immB, dCallP, viewVs, viewV, view1, viewL, noMemV, noMem, alive, Nat.reduceEqDiff, Nat.reduceAdd, ↓reduceIte, reduceCtorEq, Nat.reduceLeDiff, Nat.reduceLT, Int.reduceNeg, dj, wk, ec, wa, q4, hx_b, hx_e, hcondQ]))) | (((((with_reducible refine dwp_condI (t := ?_) ?_ (fun hcQ => ?_) (fun hcQ => ?_)); rotate_left; · (rfl))) <;> (have hn := hcQ; have hcondQ := hcQ) <;> (try simp only [bne_iff_ne, ne_eq, bne_eq_false_iff_eq] at hn) <;> (try (exfalso; omega)) <;> (refine Todo.of ?_))) | fail))
        exact ⟨(stSlt (s, at_) ⟨nm, ⟨tk, te, tn⟩, ea, ini⟩, t ++ [⟨.loc, 6, [[.str nm, .int .i64 tk, .int .i64 te, .int .i64 tn, .int .i64 ea, .sl (ils ini)]]⟩]), by simp only [stSlt, if_neg eq]; exact by simp only [cut_none, List.map_cons, List.map_nil, get_cons, Nk.get_nil, Nat.reduceEqDiff, ↓reduceIte, Nat.succ_ne_self, Int.natCast_add, Int.natCast_one] <;> rfl, by simp only; omega, hr2, by simp only [stSlt]; omega, by simp only [stSlt]; omega⟩
  · have d : ¬ k < l.length := by omega
    have e : a.1.1 = stSlts l ⟨b, true⟩ := by have := hr.2.1; unfold stSlts; rw [← this]; rfl
    (have hcondQ := Bool.and_self; refine Todo.of ?_); (repeat' (first | ((with_reducible refine Todo.to ?_); (repeat (simp only [↓rP, rT, rU, dvalX, dval, dBin, dInt, retV, retL, Nat.reduceEqDiff, ↓reduceIte, Int.reduceNeg, d, hx_len ]))) | ((with_reducible refine And.intro ?_ ?_); · trivial) | fail))
    rw [e]
    exact ⟨⟨_, rfl⟩, hx_end h1 h2⟩
end Go.Proofs.YtfaailjhioobhaaGreat

/- Sections that the reference writes. -/
set_option linter.all false
set_option maxRecDepth 20000
namespace Go.Proofs.YtfaailjhioobhaaGreat
open Go.Nk

end Go.Proofs.YtfaailjhioobhaaGreat

/- Ports, slots, locals that the reference writes. -/
set_option linter.all false
set_option maxRecDepth 20000
namespace Go.Proofs.YtfaailjhioobhaaGreat
open Go.Nk

end Go.Proofs.YtfaailjhioobhaaGreat

/- Slots that the reference writes. -/
set_option linter.all false
set_option maxRecDepth 20000
namespace Go.Proofs.YtfaailjhioobhaaGreat
open Go.Nk

end Go.Proofs.YtfaailjhioobhaaGreat

/- A section's bytes, by the program. -/
set_option linter.all false
set_option maxRecDepth 20000
namespace Go.Proofs.YtfaailjhioobhaaGreat
open Go.Nk

def st2o (s : SW) : Option (List UInt8) := if s.ok then some s.b else none
def secO (x : Img) (i : Int) : Option (List UInt8) :=
  if i = 1 then st2o (stEns x.en ⟨[], true⟩) else if i = 2 then st2o (stPrts x.ins ⟨[], true⟩) else if i = 3 then st2o (stPrts x.outs ⟨[], true⟩)
  else if i = 4 then st2o (stSlts x.slots ⟨[], true⟩) else if i = 5 then st2o (stLocs x.loc ⟨[], true⟩) else putI x.code
structure okIm (x : Img) : Prop where
  en : szEns x.en ≤ 4294967000 ∧ x.en.length ≤ 1000000000 ∧ ∀ e ∈ x.en, e.ct.length ≤ 1000000000
  ins : szPrts x.ins ≤ 4294967000 ∧ x.ins.length ≤ 1000000000 ∧ ∀ p ∈ x.ins, ok3 p.ty
  outs : szPrts x.outs ≤ 4294967000 ∧ x.outs.length ≤ 1000000000 ∧ ∀ p ∈ x.outs, ok3 p.ty
  slots : szSlts x.slots ≤ 4294967000 ∧ x.slots.length ≤ 1000000000 ∧ ∀ p ∈ x.slots, ok3 p.ty ∧ p.ini.length ≤ 1000000000 ∧ ∀ n ∈ p.ini, okI64 n
  loc : 4 * x.loc.length ≤ 4294967000 ∧ x.loc.length ≤ 1000000000 ∧ ∀ k ∈ x.loc, okI64 k
  code : okIns x.code
/-- A writer that went well has written. -/
def NE (s : SW) : Prop := s.ok = true → s.b ≠ []
theorem nxW_NE {s : SW} {f : List UInt8 → WS} (hf : ∀ b b', f b = some b' → b' ≠ []) : NE (nxW s f) := by
  intro q
  unfold nxW at q ⊢
  split at q
  · rename_i e
    rw [if_pos e]
    split at q
    · rename_i b' e'
      exact hf _ _ e'
    · cases q
  · rename_i e; exact absurd q e
theorem wNum_ne {b b' : List UInt8} {k z : Int} (h : wNum b k z = some b') : b' ≠ [] := by
  unfold wNum at h
  split at h
  · cases h
  · rename_i c
    simp only [not_or] at c
    injection h with h
    subst h
    intro e
    have := congrArg List.length e
    simp only [List.length_append, putL_length, List.length_nil] at this
    omega
theorem wLen_ne {b c b' : List UInt8} {z : Int} (h : wLen b c z = some b') : b' ≠ [] := by
  unfold wLen at h
  cases e : wNum b c.length z with
  | none => rw [e] at h; cases h
  | some b1 =>
    rw [e] at h
    injection h with h
    subst h
    have := wNum_ne e
    simp [this]
theorem stNum_NE (k z : Int) (s : SW) : NE (stNum k z s) := nxW_NE fun _ _ h => wNum_ne h
theorem stInt_NE (x : Int) (s : SW) : NE (stInt x s) := nxW_NE fun _ _ h => wLen_ne h
theorem stText_NE (c : List UInt8) (s : SW) : NE (stText c s) := nxW_NE fun _ _ h => wLen_ne h
theorem foldl_NE {α β : Type} {g : β → SW} {f : β → α → β} (hf : ∀ s x, NE (g (f s x)) ∨ g (f s x) = g s) : ∀ (l : List α) (s : β), NE (g s) → NE (g (l.foldl f s))
  | [], _, h => h
  | x :: l, s, h => foldl_NE hf l (f s x) ((hf s x).elim id fun e => e ▸ h)
theorem stCt_NE (l : List (List UInt8)) (s : SW) (h : NE s) : NE (stCt l s) := foldl_NE (g := id) (fun s c => .inl (stText_NE c s)) l s h
theorem stInts_NE (l : List Int) (s : SW) (h : NE s) : NE (stInts l s) := foldl_NE (g := id) (fun s c => .inl (stInt_NE c s)) l s h
theorem stEns_NE (l : List En) (s : SW) : NE (stEns l s) := foldl_NE (g := id) (fun _ _ => .inl (stCt_NE _ _ (stNum_NE _ _ _))) l _ (stNum_NE _ _ _)
theorem stPrts_NE (l : List Prt) (s : SW) : NE (stPrts l s) := foldl_NE (g := id) (fun _ _ => .inl (stNum_NE _ _ _)) l _ (stNum_NE _ _ _)
theorem stLocs_NE (l : List Int) (s : SW) : NE (stLocs l s) := foldl_NE (g := id) (fun _ _ => .inl (stNum_NE _ _ _)) l _ (stNum_NE _ _ _)
theorem stSlts_NE (l : List Slt) (s : SW) : NE (stSlts l s) := foldl_NE (g := Prod.fst) (fun s x => .inl (by
  unfold stSlt
  simp only
  split
  · exact stInts_NE _ _ (stNum_NE _ _ _)
  · exact stNum_NE _ _ _)) l _ (stNum_NE _ _ _)
theorem foldl_len {α β : Type} {g : β → SW} {f : β → α → β} {z : α → Nat} (hf : ∀ s x, (g (f s x)).b.length ≤ (g s).b.length + z x) : ∀ (l : List α) (s : β), (g (l.foldl f s)).b.length ≤ (g s).b.length + (l.map z).sum
  | [], s => by simp
  | x :: l, s => by
    have h1 := foldl_len hf l (f s x)
    have h2 := hf s x
    simp only [List.foldl_cons, List.map_cons, List.sum_cons]
    omega
theorem stEns_len (l : List En) : (stEns l ⟨[], true⟩).b.length ≤ szEns l := by
  have h1 := foldl_len (g := id) (f := stEn) (z := szEn) (fun s x => stEn_len s x) l (stNum l.length 1 ⟨[], true⟩)
  have h2 := stNum_len l.length 1 ⟨[], true⟩
  simp only [id, List.length_nil] at h1 h2
  unfold stEns szEns
  omega
theorem stPrts_len (l : List Prt) : (stPrts l ⟨[], true⟩).b.length ≤ szPrts l := by
  have h1 := foldl_len (g := id) (f := stPrt) (z := szPrt) (fun s x => stPrt_len s x) l (stNum l.length 1 ⟨[], true⟩)
  have h2 := stNum_len l.length 1 ⟨[], true⟩
  simp only [id, List.length_nil] at h1 h2
  unfold stPrts szPrts
  omega
theorem stSlts_len (l : List Slt) : (stSlts l ⟨[], true⟩).b.length ≤ szSlts l := by
  have h1 := foldl_len (g := Prod.fst) (f := stSlt) (z := szSlt) (fun s x => stSlt_len s x) l (stNum l.length 1 ⟨[], true⟩, 0)
  have h2 := stNum_len l.length 1 ⟨[], true⟩
  simp only [List.length_nil] at h1 h2
  unfold stSlts szSlts
  omega
theorem sum_const (c : Nat) {α : Type} (l : List α) : (l.map fun _ => c).sum = c * l.length := by
  induction l with
  | nil => rfl
  | cons x l ih => simp only [List.map_cons, List.sum_cons, List.length_cons, ih, Nat.mul_succ]; omega
theorem stLocs_len (l : List Int) : (stLocs l ⟨[], true⟩).b.length ≤ 4 * l.length + 4 := by
  have h1 := foldl_len (g := id) (f := fun s n => stNum n 2 s) (z := fun _ => 4) (fun s x => stNum_len x 2 s) l (stNum l.length 2 ⟨[], true⟩)
  have h2 := stNum_len l.length 2 ⟨[], true⟩
  rw [sum_const] at h1
  simp only [id, List.length_nil] at h1 h2
  unfold stLocs
  omega
end Go.Proofs.YtfaailjhioobhaaGreat

/- A section's bytes, by the program: the walk. -/
set_option linter.all false
set_option maxRecDepth 20000
namespace Go.Proofs.YtfaailjhioobhaaGreat
open Go.Nk

/-- The heap of section: the image, the writer, who holds it, its bytes. -/
def secH (x : Img) (s : SW) : List DObj := [⟨.loc, 6, [cImg x]⟩, ⟨.loc, 2, [rowW true 3 s]⟩, ⟨.loc, 1, [[.ptr 1 1 0 0]]⟩, ⟨.imm, 1, bsl s.b⟩]
theorem secH_hx (x : Img) (s s' : SW) : hx true (secH x s) 1 3 s' = secH x s' := rfl
theorem secH_is (x : Img) (b : List UInt8) : isW true (secH x ⟨b, true⟩) 1 3 (some b) := ⟨rfl, rfl, by decide⟩
theorem secH_2' (x : Img) (s : SW) : (secH x s)[2]? = some ⟨.loc, 1, [[.ptr 1 1 0 0]]⟩ := rfl
theorem secH_4 (x : Img) (s : SW) (o : DObj) (t : List DObj) : (secH x s ++ (o :: t))[4]? = some o := rfl
/-- The heap ahead of what is written. -/
abbrev secI (en : List En) (ins outs : List Prt) (slots : List Slt) (loc : List Int) (code : List In4) : List DObj := [⟨.loc, 6, [[.sl (en.map cEn), .sl (ins.map cPrt), .sl (outs.map cPrt), .sl (slots.map cSlt), .sl (ils loc), .sl (code.map cIn4)]]⟩, ⟨.loc, 2, [[.own 3 0 0 0, .bool true]]⟩, ⟨.loc, 1, [[.ptr 1 1 0 0]]⟩, ⟨.imm, 1, []⟩]
theorem secH_bytes {x : Img} {s : SW} (h : s.ok = true) (hn : s.b ≠ []) (hb : s.b.length ≤ 4294967296) : s_wBytes [.ptr 1 1 0 0] (secH x s) = ⟨True, .own 4 s.b.length 0 s.b.length, secH x s ++ [⟨.imm, 1, bsl s.b⟩]⟩ := by
  obtain ⟨b, ok⟩ := s
  simp only at h; subst h
  refine (s_wBytes_at (secH_is x b)).trans ?_
  rw [eq_true (show b ≠ [] ∧ b.length ≤ 4294967296 from ⟨hn, hb⟩)]; rfl
theorem secH_bytesN {x : Img} {s : SW} (h : s.ok = false) : s_wBytes [.ptr 1 1 0 0] (secH x s) = ⟨True, .nil, secH x s⟩ := by
  obtain ⟨b, ok⟩ := s
  simp only at h; subst h
  exact s_wBytes_bad rfl
theorem secH_ok {x : Img} {s : SW} (t : List DObj) : s_wOk [.ptr 1 1 0 0] (secH x s ++ t) = ⟨True, .bool s.ok, secH x s ++ t⟩ := by
  obtain ⟨b, ok⟩ := s
  cases ok
  · exact s_wOk_bad rfl
  · exact s_wOk_at (m := 3) (b := b) ⟨rfl, rfl, by decide⟩
noncomputable def s_sec : List DV → Prop × DV := spec2 eImg eI fun x i => (okIm x, putV (secO x i))
theorem s_sec_at (x : Img) (i : Int) : s_sec [.agg (cImg x), .int .i64 i] = (okIm x, putV (secO x i)) := spec2_at inj_Img inj_I _ x i
set_option maxHeartbeats 4000000 in
theorem ok_image_section : OkP Tryz.prog 19 s_sec := by
  refine OkP.mk2 (ps := [(56, s_IPut)]) (hs := [(18, s_wNew), (52, s_wEns), (53, s_wPrts), (54, s_wSlts), (55, s_wLocs), (24, s_wBytes), (57, s_wOk)]) ⟨ok_instr_Put, trivial⟩ ⟨ok_wNew, ok_image_writer_enums, ok_image_writer_ports, ok_image_writer_slots, ok_image_writer_locals, ok_wBytes, ok_wOk, trivial⟩ m_image_section fun x i h => ?_
  
  have hz : ∀ l : List In4, l.map cIn4 = l.map cIn := fun _ => rfl
  have fin : ∀ s : SW, NE s → s.b.length ≤ 4294967200 → (∀ K : DV, True) := fun _ _ _ _ => trivial
  have i1 := s_wEns_at x (secH_is x [])
  rw [eq_true (show [].length + szEns x.en ≤ 4294967000 ∧ x.en.length ≤ 1000000000 ∧ ∀ e ∈ x.en, e.ct.length ≤ 1000000000 by simpa using h.en), secH_hx] at i1
  have i2 := s_wPrts_at x.ins (secH_is x [])
  rw [eq_true (show [].length + szPrts x.ins ≤ 4294967000 ∧ x.ins.length ≤ 1000000000 ∧ ∀ p ∈ x.ins, ok3 p.ty by simpa using h.ins), secH_hx] at i2
  have i3 := s_wPrts_at x.outs (secH_is x [])
  rw [eq_true (show [].length + szPrts x.outs ≤ 4294967000 ∧ x.outs.length ≤ 1000000000 ∧ ∀ p ∈ x.outs, ok3 p.ty by simpa using h.outs), secH_hx] at i3
  have i4 := s_wSlts_at x (secH_is x [])
  rw [eq_true (show [].length + szSlts x.slots ≤ 4294967000 ∧ x.slots.length ≤ 1000000000 ∧ ∀ p ∈ x.slots, ok3 p.ty ∧ p.ini.length ≤ 1000000000 ∧ ∀ n ∈ p.ini, okI64 n by simpa using h.slots), secH_hx] at i4
  have i5 := s_wLocs_at x (secH_is x [])
  rw [eq_true (show [].length + 4 * x.loc.length ≤ 4294967000 ∧ x.loc.length ≤ 1000000000 ∧ ∀ k ∈ x.loc, okI64 k by simpa using h.loc), secH_hx] at i5
  have i6 := s_IPut_at x.code
  rw [eq_true h.code] at i6
  have ok' : ∀ (s : SW), s_wOk [.ptr 1 1 0 0] (secH x s) = ⟨True, .bool s.ok, secH x s⟩ := fun s => by have := secH_ok (x := x) (s := s) []; simpa using this
  have hkey : ∀ s : SW, NE s → s.b.length ≤ 4294967296 → putV (st2o s) = .tup [.sl (bsl (if s.ok then s.b else [])), .bool s.ok] := fun s _ _ => by
    obtain ⟨b, ok⟩ := s
    cases ok <;> rfl
  obtain ⟨en, ins, outs, slots, loc, code⟩ := x
  simp only [cImg] at i1 i2 i3 i4 i5 i6 ⊢
  have j1 : s_wEns [.agg [.ptr 1 1 0 0], .agg [.sl (en.map cEn), .sl (ins.map cPrt), .sl (outs.map cPrt), .sl (slots.map cSlt), .sl (ils loc), .sl (code.map cIn4)]] (secI en ins outs slots loc code) = ⟨True, .tup [], secH ⟨en, ins, outs, slots, loc, code⟩ (stEns en ⟨[], true⟩)⟩ := i1
  have j2 : s_wPrts [.agg [.ptr 1 1 0 0], .sl (ins.map cPrt)] (secI en ins outs slots loc code) = ⟨True, .tup [], secH ⟨en, ins, outs, slots, loc, code⟩ (stPrts ins ⟨[], true⟩)⟩ := i2
  have j3 : s_wPrts [.agg [.ptr 1 1 0 0], .sl (outs.map cPrt)] (secI en ins outs slots loc code) = ⟨True, .tup [], secH ⟨en, ins, outs, slots, loc, code⟩ (stPrts outs ⟨[], true⟩)⟩ := i3
  have j4 : s_wSlts [.agg [.ptr 1 1 0 0], .agg [.sl (en.map cEn), .sl (ins.map cPrt), .sl (outs.map cPrt), .sl (slots.map cSlt), .sl (ils loc), .sl (code.map cIn4)]] (secI en ins outs slots loc code) = ⟨True, .tup [], secH ⟨en, ins, outs, slots, loc, code⟩ (stSlts slots ⟨[], true⟩)⟩ := i4
  have j5 : s_wLocs [.agg [.ptr 1 1 0 0], .agg [.sl (en.map cEn), .sl (ins.map cPrt), .sl (outs.map cPrt), .sl (slots.map cSlt), .sl (ils loc), .sl (code.map cIn4)]] (secI en ins outs slots loc code) = ⟨True, .tup [], secH ⟨en, ins, outs, slots, loc, code⟩ (stLocs loc ⟨[], true⟩)⟩ := i5
  clear i1 i2 i3 i4 i5
  (have hcondQ := Bool.and_self; refine Todo.of ?_); (repeat' (first | ((with_reducible refine Todo.to ?_); (repeat (simp only [↓rP, rT, rU, eI, eA, buildCells, dvalX, dval, dStore, DV.one, cellsOf, setFrom, DV.isU, Nat.reduceEqDiff, Nat.reduceAdd, ↓reduceIte, Nat.reduceLeDiff, forall_const, d_image_section, eImg, s_wNew_at ])))))
  refine dwp_gown_grow ?_
  by_cases c1 : i = 1
  · subst c1
    simp only [secO, ↓reduceIte]
    have hN := stEns_NE en ⟨[], true⟩
    have hL : (stEns en ⟨[], true⟩).b.length ≤ 4294967296 := by have := stEns_len en; have := h.en.1; simp only at this; omega
    rw [hkey _ hN hL]
    generalize stEns en ⟨[], true⟩ = S at *
    cases e : S.ok
    · have eb := secH_bytesN (x := ⟨en, ins, outs, slots, loc, code⟩) e
      have eo := ok' S
      rw [e] at eo
      (have hcondQ := Bool.and_self; refine Todo.of ?_); (repeat' (first | ((with_reducible refine Todo.to ?_); (repeat (simp only [↓rP, rT, rU, dvalX, dval, dBin, dInt, dLoad, cellsAt, retV, retL, DR.val, fzT, fzVs, fzV, fz1, DV.immB, alive, Nat.reduceEqDiff, Nat.reduceAdd, ↓reduceIte, reduceCtorEq, Nat.reduceLeDiff, j1, secH_2', eb, eo ]))) | ((with_reducible refine And.intro ?_ ?_); · (simp; done)) | fail))
      all_goals first | rfl | skip
    · have eb := secH_bytes (x := ⟨en, ins, outs, slots, loc, code⟩) e (hN e) hL
      have eo := fun t => secH_ok (x := ⟨en, ins, outs, slots, loc, code⟩) (s := S) t
      rw [e] at eo
      (have hcondQ := Bool.and_self; refine Todo.of ?_); (repeat' (first | ((with_reducible refine Todo.to ?_); (repeat (simp only [↓rP, rT, rU, dvalX, dval, dBin, dInt, dLoad, cellsAt, retV, retL, DR.val, fzT, fzVs, fzV, fz1, DV.immB, elemsOf, alive, freezeAt, Nat.reduceEqDiff, Nat.reduceAdd, ↓reduceIte, reduceCtorEq, Nat.reduceLeDiff, bsl_tk, j1, secH_2', secH_4, eb, eo ]))) | ((with_reducible refine And.intro ?_ ?_); · (simp; done)) | fail)) <;> (try (exact Nat.le_refl _))
      all_goals first | rfl | (rw [List.take_of_length_le (by rw [bsl_length]; exact Nat.le_refl _)]; done) | skip
  by_cases c2 : i = 2
  · subst c2
    simp only [secO, ↓reduceIte, Int.reduceEq]
    have hN := stPrts_NE ins ⟨[], true⟩
    have hL : (stPrts ins ⟨[], true⟩).b.length ≤ 4294967296 := by have := stPrts_len ins; have := h.ins.1; simp only at this; omega
    rw [hkey _ hN hL]
    generalize stPrts ins ⟨[], true⟩ = S at *
    cases e : S.ok
    · have eb := secH_bytesN (x := ⟨en, ins, outs, slots, loc, code⟩) e
      have eo := ok' S
      rw [e] at eo
      (have hcondQ := Bool.and_self; refine Todo.of ?_); (repeat' (first | ((with_reducible refine Todo.to ?_); (repeat (simp only [↓rP, rT, rU, dvalX, dval, dBin, dInt, dLoad, cellsAt, retV, retL, DR.val, fzT, fzVs, fzV, fz1, DV.immB, alive, Nat.reduceEqDiff, Nat.reduceAdd, ↓reduceIte, reduceCtorEq, Nat.reduceLeDiff, Nat.reduceLT, Int.reduceBEq, j2, secH_2', eb, eo ]))) | ((with_reducible refine And.intro ?_ ?_); · (simp; done)) | fail))
      all_goals first | rfl | skip
    · have eb := secH_bytes (x := ⟨en, ins, outs, slots, loc, code⟩) e (hN e) hL
      have eo := fun t => secH_ok (x := ⟨en, ins, outs, slots, loc, code⟩) (s := S) t
      rw [e] at eo
      (have hcondQ := Bool.and_self; refine Todo.of ?_); (repeat' (first | ((with_reducible refine Todo.to ?_); (repeat (simp only [↓rP, rT, rU, dvalX, dval, dBin, dInt, dLoad, cellsAt, retV, retL, DR.val, fzT, fzVs, fzV, fz1, DV.immB, elemsOf, alive, freezeAt, Nat.reduceEqDiff, Nat.reduceAdd, ↓reduceIte, reduceCtorEq, Nat.reduceLeDiff, Nat.reduceLT, Int.reduceBEq, bsl_tk, j2, secH_2', secH_4, eb, eo ]))) | ((with_reducible refine And.intro ?_ ?_); · (simp; done)) | fail)) <;> (try (exact Nat.le_refl _))
      all_goals first | rfl | (rw [List.take_of_length_le (by rw [bsl_length]; exact Nat.le_refl _)]; done) | skip
  by_cases c3 : i = 3
  · subst c3
    simp only [secO, ↓reduceIte, Int.reduceEq]
    have hN := stPrts_NE outs ⟨[], true⟩
    have hL : (stPrts outs ⟨[], true⟩).b.length ≤ 4294967296 := by have := stPrts_len outs; have := h.outs.1; simp only at this; omega
    rw [hkey _ hN hL]
    generalize stPrts outs ⟨[], true⟩ = S at *
    cases e : S.ok
    · have eb := secH_bytesN (x := ⟨en, ins, outs, slots, loc, code⟩) e
      have eo := ok' S
      rw [e] at eo
      (have hcondQ := Bool.and_self; refine Todo.of ?_); (repeat' (first | ((with_reducible refine Todo.to ?_); (repeat (simp only [↓rP, rT, rU, dvalX, dval, dBin, dInt, dLoad, cellsAt, retV, retL, DR.val, fzT, fzVs, fzV, fz1, DV.immB, alive, Nat.reduceEqDiff, Nat.reduceAdd, ↓reduceIte, reduceCtorEq, Nat.reduceLeDiff, Nat.reduceLT, Int.reduceBEq, j3, secH_2', eb, eo ]))) | ((with_reducible refine And.intro ?_ ?_); · (simp; done)) | fail))
      all_goals first | rfl | skip
    · have eb := secH_bytes (x := ⟨en, ins, outs, slots, loc, code⟩) e (hN e) hL
      have eo := fun t => secH_ok (x := ⟨en, ins, outs, slots, loc, code⟩) (s := S) t
      rw [e] at eo
      (have hcondQ := Bool.and_self; refine Todo.of ?_); (repeat' (first | ((with_reducible refine Todo.to ?_); (repeat (simp only [↓rP, rT, rU, dvalX, dval, dBin, dInt, dLoad, cellsAt, retV, retL, DR.val, fzT, fzVs, fzV, fz1, DV.immB, elemsOf, alive, freezeAt, Nat.reduceEqDiff, Nat.reduceAdd, ↓reduceIte, reduceCtorEq, Nat.reduceLeDiff, Nat.reduceLT, Int.reduceBEq, bsl_tk, j3, secH_2', secH_4, eb, eo ]))) | ((with_reducible refine And.intro ?_ ?_); · (simp; done)) | fail)) <;> (try (exact Nat.le_refl _))
      all_goals first | rfl | (rw [List.take_of_length_le (by rw [bsl_length]; exact Nat.le_refl _)]; done) | skip
  by_cases c4 : i = 4
  · subst c4
    simp only [secO, ↓reduceIte, Int.reduceEq]
    have hN := stSlts_NE slots ⟨[], true⟩
    have hL : (stSlts slots ⟨[], true⟩).b.length ≤ 4294967296 := by have := stSlts_len slots; have := h.slots.1; simp only at this; omega
    rw [hkey _ hN hL]
    generalize stSlts slots ⟨[], true⟩ = S at *
    cases e : S.ok
    · have eb := secH_bytesN (x := ⟨en, ins, outs, slots, loc, code⟩) e
      have eo := ok' S
      rw [e] at eo
      (have hcondQ := Bool.and_self; refine Todo.of ?_); (repeat' (first | ((with_reducible refine Todo.to ?_); (repeat (simp only [↓rP, rT, rU, dvalX, dval, dBin, dInt, dLoad, cellsAt, retV, retL, DR.val, fzT, fzVs, fzV, fz1, DV.immB, alive, Nat.reduceEqDiff, Nat.reduceAdd, ↓reduceIte, reduceCtorEq, Nat.reduceLeDiff, Int.reduceBEq, j4, secH_2', eb, eo ]))) | ((with_reducible refine And.intro ?_ ?_); · (simp; done)) | fail))
      all_goals first | rfl | skip
    · have eb := secH_bytes (x := ⟨en, ins, outs, slots, loc, code⟩) e (hN e) hL
      have eo := fun t => secH_ok (x := ⟨en, ins, outs, slots, loc, code⟩) (s := S) t
      rw [e] at eo
      (have hcondQ := Bool.and_self; refine Todo.of ?_); (repeat' (first | ((with_reducible refine Todo.to ?_); (repeat (simp only [↓rP, rT, rU, dvalX, dval, dBin, dInt, dLoad, cellsAt, retV, retL, DR.val, fzT, fzVs, fzV, fz1, DV.immB, elemsOf, alive, freezeAt, Nat.reduceEqDiff, Nat.reduceAdd, ↓reduceIte, reduceCtorEq, Nat.reduceLeDiff, Int.reduceBEq, bsl_tk, j4, secH_2', secH_4, eb, eo ]))) | ((with_reducible refine And.intro ?_ ?_); · (simp; done)) | fail)) <;> (try (exact Nat.le_refl _))
      all_goals first | rfl | (rw [List.take_of_length_le (by rw [bsl_length]; exact Nat.le_refl _)]; done) | skip
  by_cases c5 : i = 5
  · subst c5
    simp only [secO, ↓reduceIte, Int.reduceEq]
    have hN := stLocs_NE loc ⟨[], true⟩
    have hL : (stLocs loc ⟨[], true⟩).b.length ≤ 4294967296 := by have := stLocs_len loc; have := h.loc.1; simp only at this; omega
    rw [hkey _ hN hL]
    generalize stLocs loc ⟨[], true⟩ = S at *
    cases e : S.ok
    · have eb := secH_bytesN (x := ⟨en, ins, outs, slots, loc, code⟩) e
      have eo := ok' S
      rw [e] at eo
      (have hcondQ := Bool.and_self; refine Todo.of ?_); (repeat' (first | ((with_reducible refine Todo.to ?_); (repeat (simp only [↓rP, rT, rU, dvalX, dval, dBin, dInt, dLoad, cellsAt, retV, retL, DR.val, fzT, fzVs, fzV, fz1, DV.immB, alive, Nat.reduceEqDiff, Nat.reduceAdd, ↓reduceIte, reduceCtorEq, Nat.reduceLeDiff, Int.reduceBEq, j5, secH_2', eb, eo ]))) | ((with_reducible refine And.intro ?_ ?_); · (simp; done)) | fail))
      all_goals first | rfl | skip
    · have eb := secH_bytes (x := ⟨en, ins, outs, slots, loc, code⟩) e (hN e) hL
      have eo := fun t => secH_ok (x := ⟨en, ins, outs, slots, loc, code⟩) (s := S) t
      rw [e] at eo
      (have hcondQ := Bool.and_self; refine Todo.of ?_); (repeat' (first | ((with_reducible refine Todo.to ?_); (repeat (simp only [↓rP, rT, rU, dvalX, dval, dBin, dInt, dLoad, cellsAt, retV, retL, DR.val, fzT, fzVs, fzV, fz1, DV.immB, elemsOf, alive, freezeAt, Nat.reduceEqDiff, Nat.reduceAdd, ↓reduceIte, reduceCtorEq, Nat.reduceLeDiff, Int.reduceBEq, bsl_tk, j5, secH_2', secH_4, eb, eo ]))) | ((with_reducible refine And.intro ?_ ?_); · (simp; done)) | fail)) <;> (try (exact Nat.le_refl _))
      all_goals first | rfl | (rw [List.take_of_length_le (by rw [bsl_length]; exact Nat.le_refl _)]; done) | skip
  have e : secO ⟨en, ins, outs, slots, loc, code⟩ i = putI code := by simp [secO, c1, c2, c3, c4, c5]
  rw [e]
  (have hcondQ := Bool.and_self; refine Todo.of ?_); (repeat' (first | ((with_reducible refine Todo.to ?_); (repeat (simp only [↓rP, rT, rU, dvalX, dval, dBin, dInt, dLoad, cellsAt, retV, retL, DR.val, fzT, fzVs, fzV, fz1, DV.immB, dCallP, viewVs, viewV, view1, noMemV, noMem, alive, Nat.reduceEqDiff, Nat.reduceAdd, ↓reduceIte, reduceCtorEq, Nat.reduceLT, i6, hz, putV , hcondQ]))) | (((((with_reducible refine dwp_condI (t := ?_) ?_ (fun hcQ => ?_) (fun hcQ => ?_)); rotate_left; · (rfl))) <;> (have hn := hcQ; have hcondQ := hcQ) <;> (try simp only [beq_iff_eq, ne_eq, beq_eq_false_iff_ne] at hn) <;> (try (exfalso; omega)) <;> (refine Todo.of ?_))) | fail))
end Go.Proofs.YtfaailjhioobhaaGreat

