/- The plain law: both machines do the same. -/
import Derived.Test.YtjgefhgkinocmaaVm7
set_option linter.all false
set_option maxRecDepth 20000
namespace Go.Proofs.Ytjgefhgkinocmaa
open Go.Nk

/-- The same cells, stack and place. -/
def Sim (v : MS) (r : RS) : Prop := r.M = v.cells ∧ r.S = v.raw.take v.hi.toNat ∧ r.pc = v.pc

section
variable {v : MS} {r : RS} (h : okM v) (s : Sim v r)
include h s
theorem sim_len : (r.S.length : Int) = v.hi := by
  rw [s.2.1, List.length_take, h.r]
  have := h.h0; have := h.h1
  omega
theorem sim_popV (h1 : 1 ≤ v.hi) : qpopV r = popV v := by
  have hl := sim_len h s
  have e : r.S.length - 1 = (v.hi - 1).toNat := by omega
  unfold qpopV popV
  rw [e, s.2.1]
  simp only [List.getD_eq_getElem?_getD, List.getElem?_take]
  rw [if_pos (by omega)]
theorem sim_popB : qpopB r = decide (1 ≤ v.hi) := by
  have hl := sim_len h s
  unfold qpopB
  by_cases c : r.S.length = 0
  · have : ¬ 1 ≤ v.hi := by omega
    simp [c, this]
  · have : 1 ≤ v.hi := by omega
    simp [this]
    intro e; rw [e] at c; exact c rfl
theorem sim_pop (h1 : 1 ≤ v.hi) : Sim (popS v) (qpopS r) ∧ (qpopS r).e = r.e := by
  have hl := sim_len h s
  have e : r.S.length - 1 = (v.hi - 1).toNat := by omega
  unfold qpopS
  rw [if_neg (by omega)]
  refine ⟨⟨s.1, ?_, s.2.2⟩, rfl⟩
  simp only [popS, e]
  rw [s.2.1, List.take_take, Nat.min_eq_left (by omega)]
theorem sim_pop0 (h1 : v.hi < 1) : (qpopS r).e = 13 := by
  have hl := sim_len h s
  unfold qpopS
  rw [if_pos (by omega)]
theorem sim_there (a b : Int) : qthereB r a b = thereF v a b := by
  unfold qthereB thereF
  rw [s.1, Bool.eq_iff_iff]; simp; omega
theorem sim_thereS (a b : Int) : (thereF v a b = true → qthereS r a b = r) ∧ (thereF v a b = false → (qthereS r a b).e = 13) := by
  unfold qthereS thereF
  rw [s.1]
  constructor
  · intro q; rw [if_neg (by simp at q; omega)]
  · intro q; rw [if_pos (by simp at q; omega)]
/-- What both say of a step: an error, or the same again. -/
theorem sim_push (x : Int) : (pushE v ≠ 0 → (qpushS r x).e = pushE v) ∧ (pushE v = 0 → Sim (pushS v x) (qpushS r x) ∧ (qpushS r x).e = r.e) := by
  have hl := sim_len h s
  have h0 := h.h0; have h1 := h.h1; have hr := h.r
  unfold pushE pushS qpushS
  by_cases c : v.hi = 16
  · rw [if_pos c, if_pos (by omega)]
    exact ⟨fun _ => rfl, fun q => by simp at q⟩
  · rw [if_neg c, if_neg (by omega), if_neg c]
    refine ⟨fun q => absurd rfl q, fun _ => ⟨⟨s.1, ?_, s.2.2⟩, rfl⟩⟩
    simp only
    rw [s.2.1]
    have e : (v.hi + 1).toNat = v.hi.toNat + 1 := by omega
    rw [e, List.take_add_one, List.take_set_of_le (Nat.le_refl _)]
    have e2 : v.hi.toNat < v.raw.length := by omega
    simp [e2]
end

/-- What is said of a step of both. -/
def Step (r : RS) (a : Int × MS) (b : RS) : Prop := (a.1 ≠ 0 → b.e = a.1) ∧ (a.1 = 0 → Sim a.2 b ∧ b.e = r.e)

theorem step_push {v : MS} {r : RS} (h : okM v) (s : Sim v r) (x : Int) : Step r (pushE v, pushS v x) (qpushS r x) := sim_push h s x
theorem step_end {v u : MS} {r q : RS} (hu : okM u) (hs : Sim u q) (he : q.e = r.e) (p : Int × Int) : Step r (if p.2 ≠ 0 then (p.2, u) else (pushE u, pushS u p.1)) (qendS q p) := by
  unfold qendS
  by_cases c : p.2 = 0
  · rw [if_neg (by simpa using c), if_neg (by simpa using c)]
    have := step_push hu hs p.1
    exact ⟨this.1, fun z => ⟨(this.2 z).1, (this.2 z).2.trans he⟩⟩
  · rw [if_pos c, if_pos c]
    exact ⟨fun _ => rfl, fun z => absurd z c⟩
theorem step_oper {v : MS} {r : RS} (h : okM v) (s : Sim v r) (x : Ins) : Step r (operR v x) (qoperS r x) := by
  have fail : ∀ {q : RS} {u : MS}, q.e = 13 → Step r (13, u) q := fun e => ⟨fun _ => e, fun q => by simp at q⟩
  have pB := sim_popB h s
  by_cases c : x.o = 4
  · simp only [operR, operV, operS, qoperS, if_pos c]
    by_cases h1 : v.hi < 1
    · have : qpopB r = false := by rw [pB]; simp; omega
      rw [if_pos h1, if_pos this]
      exact fail (sim_pop0 h s h1)
    · have : ¬ qpopB r = false := by rw [pB]; simp; omega
      rw [if_neg h1, if_neg this, sim_popV h s (by omega)]
      have s1 := sim_pop h s (by omega)
      exact step_end (v := v) (okM_pop h (by omega)) s1.1 s1.2 _
  · simp only [operR, operV, operS, qoperS, c, ↓reduceIte]
    by_cases h1 : v.hi < 1
    · have : qpopB r = false := by rw [pB]; simp; omega
      rw [if_pos (by omega), if_pos this]
      exact fail (sim_pop0 h s h1)
    · have : ¬ qpopB r = false := by rw [pB]; simp; omega
      have s1 := sim_pop h s (by omega)
      have k1 := okM_pop h (by omega)
      have pB1 := sim_popB k1 s1.1
      rw [if_neg this]
      by_cases h2 : v.hi < 2
      · have : qpopB (qpopS r) = false := by rw [pB1, show (popS v).hi = v.hi - 1 from rfl]; simp; omega
        rw [if_pos h2, if_pos this]
        exact fail (sim_pop0 k1 s1.1 (by simp [popS]; omega))
      · have : ¬ qpopB (qpopS r) = false := by rw [pB1, show (popS v).hi = v.hi - 1 from rfl]; simp; omega
        rw [if_neg h2, if_neg this, sim_popV h s (by omega), sim_popV k1 s1.1 (by simp [popS]; omega)]
        have s2 := sim_pop k1 s1.1 (by simp [popS]; omega)
        exact step_end (v := v) (okM_pop k1 (by simp [popS]; omega)) s2.1 (s2.2.trans s1.2) _

theorem step_get {v : MS} {r : RS} (h : okM v) (s : Sim v r) (x : Ins) (ha : 0 ≤ x.a) (ho : x.o = 8) : Step r (getR v x) (qplaceS r x) := by
  have fail : ∀ {q : RS} {u : MS}, q.e = 13 → Step r (13, u) q := fun e => ⟨fun _ => e, fun q => by simp at q⟩
  have pB := sim_popB h s
  simp only [getR, qplaceS, ho, show ¬ (8 : Int) = 9 by decide, false_and, ↓reduceIte]
  by_cases h1 : v.hi < 1
  · have : qpopB r = false := by rw [pB]; simp; omega
    rw [if_pos (.inl h1), if_pos this]
    exact fail (sim_pop0 h s h1)
  have : ¬ qpopB r = false := by rw [pB]; simp; omega
  have s1 := sim_pop h s (by omega)
  have k1 := okM_pop h (by omega)
  have tB := sim_there k1 s1.1 x.a x.b
  have tS := sim_thereS k1 s1.1 x.a x.b
  have tv : thereF (popS v) x.a x.b = thereF v x.a x.b := rfl
  rw [if_neg this, tB, tv]
  rw [tv] at tS
  by_cases h2 : thereF v x.a x.b = false
  · rw [if_pos (.inr h2), if_pos h2]
    exact fail (tS.2 h2)
  have h2' : thereF v x.a x.b = true := by simpa using h2
  rw [if_neg (by rintro (q | q); exact h1 q; exact h2 q), if_neg h2, tS.1 h2', sim_popV h s (by omega)]
  by_cases h3 : popV v < 0 ∨ x.b ≤ popV v
  · rw [if_pos h3, if_pos h3]
    exact ⟨fun _ => rfl, fun q => by simp at q⟩
  · rw [if_neg h3, if_neg h3]
    have e : (x.a + popV v).toNat = x.a.toNat + (popV v).toNat := by omega
    have eM : (qpopS r).M = v.cells := s1.1.1
    rw [e, eM]
    have := step_push k1 s1.1 (v.cells.getD (x.a.toNat + (popV v).toNat) 0)
    exact ⟨this.1, fun q => ⟨(this.2 q).1, (this.2 q).2.trans s1.2⟩⟩
theorem step_put {v : MS} {r : RS} (h : okM v) (s : Sim v r) (x : Ins) (ha : 0 ≤ x.a) (ho : x.o = 9) : Step r (putR v x) (qplaceS r x) := by
  have fail : ∀ {q : RS} {u : MS}, q.e = 13 → Step r (13, u) q := fun e => ⟨fun _ => e, fun q => by simp at q⟩
  have pB := sim_popB h s
  simp only [putR, qplaceS, ho, true_and, ↓reduceIte]
  by_cases h1 : v.hi < 1
  · have : qpopB r = false := by rw [pB]; simp; omega
    rw [if_pos (.inl (by omega)), if_pos this]
    exact fail (sim_pop0 h s h1)
  have : ¬ qpopB r = false := by rw [pB]; simp; omega
  have s1 := sim_pop h s (by omega)
  have k1 := okM_pop h (by omega)
  have pB1 := sim_popB k1 s1.1
  rw [if_neg this]
  by_cases h1' : v.hi < 2
  · have : qpopB (qpopS r) = false := by rw [pB1, show (popS v).hi = v.hi - 1 from rfl]; simp; omega
    rw [if_pos (.inl h1'), if_pos this]
    exact fail (sim_pop0 k1 s1.1 (by simp [popS]; omega))
  have : ¬ qpopB (qpopS r) = false := by rw [pB1, show (popS v).hi = v.hi - 1 from rfl]; simp; omega
  have h1p : 1 ≤ (popS v).hi := by simp [popS]; omega
  have s2 := sim_pop k1 s1.1 h1p
  have k2 := okM_pop k1 h1p
  have tB := sim_there k2 s2.1 x.a x.b
  have tS := sim_thereS k2 s2.1 x.a x.b
  have tv : thereF (popS (popS v)) x.a x.b = thereF v x.a x.b := rfl
  rw [if_neg this, tB, tv]
  rw [tv] at tS
  by_cases h2 : thereF v x.a x.b = false
  · rw [if_pos (.inr h2), if_pos h2]
    exact fail (tS.2 h2)
  have h2' : thereF v x.a x.b = true := by simpa using h2
  rw [if_neg (by rintro (q | q); exact h1' q; exact h2 q), if_neg h2, tS.1 h2', sim_popV h s (by omega), sim_popV k1 s1.1 h1p]
  by_cases h3 : popV v < 0 ∨ x.b ≤ popV v
  · rw [if_pos h3, if_pos h3]
    exact ⟨fun _ => rfl, fun q => by simp at q⟩
  · rw [if_neg h3, if_neg h3]
    have e : (x.a + popV v).toNat = x.a.toNat + (popV v).toNat := by omega
    have eM : (qpopS (qpopS r)).M = v.cells := s2.1.1
    refine ⟨fun q => absurd rfl q, fun _ => ⟨⟨?_, s2.1.2.1, s2.1.2.2⟩, s2.2.trans s1.2⟩⟩
    simp only [e, eM]
theorem step_do {v : MS} {r : RS} (h : okM v) (hpc : v.pc < 1000000000) (s : Sim v r) (x : Ins) (hr : rightF x = true) :
    ((doR v x).1 ≠ 0 → (qdoS r x).e = (doR v x).1) ∧ ((doR v x).1 = 0 → (qdoS r x).M = (doR v x).2.cells ∧ (x.o ≠ 10 → Sim (doR v x).2 (qdoS r x) ∧ (qdoS r x).e = r.e) ∧ (x.o = 10 → (qdoS r x).e = -1)) := by
  have p0 := h.p0
  have hu : okM { v with pc := v.pc + 1 } := okM_pc h (by omega) (by omega)
  have su : Sim { v with pc := v.pc + 1 } { r with pc := r.pc + 1 } := ⟨s.1, s.2.1, by simp only [s.2.2]⟩
  have ra := right_a hr
  have lift : ∀ {a : Int × MS} {b : RS}, Step { r with pc := r.pc + 1 } a b → x.o ≠ 10 → (a.1 ≠ 0 → b.e = a.1) ∧ (a.1 = 0 → b.M = a.2.cells ∧ (x.o ≠ 10 → Sim a.2 b ∧ b.e = r.e) ∧ (x.o = 10 → b.e = -1)) :=
    fun st hx => ⟨st.1, fun q => ⟨(st.2 q).1.1, fun _ => st.2 q, fun e => absurd e hx⟩⟩
  have fail : ∀ {q : RS} {u : MS}, q.e = 13 → Step { r with pc := r.pc + 1 } (13, u) q := fun e => ⟨fun _ => e, fun q => by simp at q⟩
  have ro := right_o hr
  unfold doR qdoS
  rw [if_neg (by simp [hr])]
  dsimp only
  by_cases c1 : x.o = 1
  · rw [if_pos c1, if_pos c1]
    exact lift (step_push hu su x.n) (by omega)
  rw [if_neg c1, if_neg c1]
  by_cases c2 : x.o = 2
  · rw [if_pos (.inl c2), if_pos c2]
    refine lift ?_ (by omega)
    have tB := sim_there hu su x.a 1
    have tS := sim_thereS hu su x.a 1
    simp only [moveR, c2, ↓reduceIte]
    rw [tB]
    cases h2 : thereF { v with pc := v.pc + 1 } x.a 1 with
    | false => simp only [Bool.false_eq_true, ↓reduceIte]; exact fail (tS.2 h2)
    | true =>
      simp only [Bool.true_eq_false, ↓reduceIte]
      rw [tS.1 h2]
      have := step_push hu su (v.cells.getD x.a.toNat 0)
      rw [← s.1] at this ⊢
      exact this
  rw [if_neg c2]
  by_cases c3 : x.o = 3
  · rw [if_pos (.inr c3), if_pos c3]
    refine lift ?_ (by omega)
    have pB := sim_popB hu su
    simp only [moveR, c3, show ¬ (3 : Int) = 2 by decide, ↓reduceIte]
    by_cases h1 : v.hi < 1
    · have : qpopB { r with pc := r.pc + 1 } = false := by rw [pB]; simp; omega
      rw [if_pos this]
      have z := sim_pop0 hu su h1
      split
      · exact fail z
      · first | exact fail z | (rw [if_pos h1]; exact fail z)
    have : ¬ qpopB { r with pc := r.pc + 1 } = false := by rw [pB]; simp; omega
    have s1 := sim_pop hu su (by simp only; omega)
    have k1 := okM_pop hu (by simp only; omega)
    have tB := sim_there k1 s1.1 x.a 1
    have tS := sim_thereS k1 s1.1 x.a 1
    have tv : thereF (popS { v with pc := v.pc + 1 }) x.a 1 = thereF { v with pc := v.pc + 1 } x.a 1 := rfl
    rw [tv] at tS tB
    rw [if_neg this, tB]
    cases h2 : thereF { v with pc := v.pc + 1 } x.a 1 with
    | false => simp only [Bool.false_eq_true, ↓reduceIte]; exact fail (tS.2 h2)
    | true =>
      simp only [Bool.true_eq_false, ↓reduceIte, h1]
      rw [tS.1 h2, sim_popV hu su (by simp only; omega)]
      refine ⟨fun q => absurd rfl q, fun _ => ⟨⟨?_, s1.1.2.1, s1.1.2.2⟩, s1.2⟩⟩
      simp only [s1.1.1, popS]
  rw [if_neg c3, if_neg (by rintro (q | q); exact c2 q; exact c3 q)]
  by_cases c4 : x.o = 4 ∨ x.o = 5
  · rw [if_pos c4, if_pos c4]
    exact lift (step_oper hu su x) (by omega)
  rw [if_neg c4, if_neg c4]
  by_cases c6 : x.o = 6
  · rw [if_pos c6, if_pos c6]
    exact lift ⟨fun q => absurd rfl q, fun _ => ⟨⟨s.1, s.2.1, rfl⟩, rfl⟩⟩ (by omega)
  rw [if_neg c6, if_neg c6]
  by_cases c7 : x.o = 7
  · rw [if_pos c7, if_pos c7]
    refine lift ?_ (by omega)
    have pB := sim_popB hu su
    by_cases h1 : v.hi < 1
    · have : qpopB { r with pc := r.pc + 1 } = false := by rw [pB]; simp; omega
      rw [if_pos h1, if_neg (by simp [this])]
      exact fail (sim_pop0 hu su h1)
    have : qpopB { r with pc := r.pc + 1 } = true := by rw [pB]; simp; omega
    have s1 := sim_pop hu su (by simp only; omega)
    rw [if_neg h1, this, sim_popV hu su (by simp only; omega)]
    simp only [true_and]
    split
    · exact ⟨fun q => absurd rfl q, fun _ => ⟨⟨s1.1.1, s1.1.2.1, rfl⟩, s1.2⟩⟩
    · exact ⟨fun q => absurd rfl q, fun _ => s1⟩
  rw [if_neg c7, if_neg c7]
  by_cases c8 : x.o = 8
  · rw [if_pos c8, if_pos (.inl c8)]
    exact lift (step_get hu su x ra.1 c8) (by omega)
  rw [if_neg c8]
  by_cases c9 : x.o = 9
  · rw [if_pos c9, if_pos (.inr c9)]
    exact lift (step_put hu su x ra.1 c9) (by omega)
  rw [if_neg c9, if_neg (by rintro (q | q); exact c8 q; exact c9 q)]
  exact ⟨fun q => absurd rfl q, fun _ => ⟨s.1, fun q => absurd (by omega) q, fun _ => rfl⟩⟩
end Go.Proofs.Ytjgefhgkinocmaa
