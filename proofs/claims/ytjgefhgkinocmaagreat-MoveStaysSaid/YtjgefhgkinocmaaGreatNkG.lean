/- How a heap changes: one object new, or other than it was; what is frozen. -/
import Derived.Test.YtjgefhgkinocmaaGreatNkF
set_option linter.all false
namespace Go.Nk
open Go.RowKit

section
variable {P : Program} {K F F' : Nat → Prop} {σ σ' : Nat → Option Nat} {hp hp' : List DObj} {w w' : World}

theorem Blk.lt {g z : Nat} {es : List (List DV)} {R : DV → Value → Prop} (h : Blk w g z es R) : g < w.heap.size := by
  obtain ⟨c, ty, hh, _⟩ := h
  rcases Nat.lt_or_ge g w.heap.size with h' | h'
  · exact h'
  · rw [Array.getElem?_eq_none h'] at hh; cases hh

theorem bsz_of {w w' : World} {g : Nat} (h : w'.heap[g]? = w.heap[g]?) : bsz w' g = bsz w g := by unfold bsz; rw [h]

/-- The block of a live object is there. -/
theorem SimH.blk_lt [Inhabited Env] (hs : SimH K F σ hp w) {h : Nat} {o : DObj} (ho : hp[h]? = some o) (hd : o.k ≠ .dead) {g : Nat} (hg : σ h = some g) : g < w.heap.size := by
  have := hs.obj h o ho
  unfold ORep at this
  split at this
  · exact absurd (by assumption) hd
  · rcases this with ⟨_, h0⟩ | ⟨g', hg', _, _, hb⟩
    · rw [hg] at h0; cases h0
    · rw [hg] at hg'; injection hg' with e; subst e; exact hb.lt
  · rcases this with ⟨_, h0⟩ | ⟨g', hg', _, hb⟩
    · rw [hg] at h0; cases h0
    · rw [hg] at hg'; injection hg' with e; subst e; exact hb.lt
  · obtain ⟨g', hg', _, _, hb⟩ := this
    rw [hg] at hg'; injection hg' with e; subst e; exact hb.lt

theorem SimH.mut_nF [Inhabited Env] (hs : SimH K F σ hp w) {h : Nat} {o : DObj} (ho : hp[h]? = some o) (hd : o.k.mut) {g : Nat} (hg : σ h = some g) : ¬ F g ∧ ¬ K g := by
  have := hs.obj h o ho
  unfold ORep at this
  rcases hd with hd | hd <;> rw [hd] at this <;> dsimp only at this
  · rcases this with ⟨_, h0⟩ | ⟨g', hg', h1, h2, hb⟩
    · rw [hg] at h0; cases h0
    · rw [hg] at hg'; injection hg' with e; subst e; exact ⟨h1, h2⟩
  · obtain ⟨g', hg', h1, h2, hb⟩ := this
    rw [hg] at hg'; injection hg' with e; subst e; exact ⟨h1, h2⟩

theorem SimH.frz_F [Inhabited Env] (hs : SimH K F σ hp w) {h : Nat} {o : DObj} (ho : hp[h]? = some o) (hd : o.k = .frz) {g : Nat} (hg : σ h = some g) : F g := by
  have := hs.obj h o ho
  unfold ORep at this
  rw [hd] at this; dsimp only at this
  rcases this with ⟨_, h0⟩ | ⟨g', hg', h1, hb⟩
  · rw [hg] at h0; cases h0
  · rw [hg] at hg'; injection hg' with e; subst e; exact h1

theorem mut_or (k : Kd) (hd : k ≠ .dead) (hm : ¬ k.mut) : k = .frz := by
  cases k
  · exact absurd (.inl rfl) hm
  · exact absurd (.inr rfl) hm
  · rfl
  · exact absurd rfl hd

/-- Only object h is other than it was, or new. -/
structure Chg (K F : Nat → Prop) (σ : Nat → Option Nat) (hp : List DObj) (w : World) (h : Nat) (o : DObj) (F' : Nat → Prop) (σ' : Nat → Option Nat) (hp' : List DObj) (w' : World) : Prop where
  os : w'.os = w.os
  tape : w'.tape = w.tape
  output : w'.output = w.output
  size : w.heap.size ≤ w'.heap.size
  hF : ∀ b, F b → F' b
  newF : ∀ b, F' b → F b ∨ w.heap.size ≤ b
  ltF : ∀ b, F' b → b < w'.heap.size
  heap : ∀ b, b < w.heap.size → (∀ oh, hp[h]? = some oh → oh.k.mut → σ h ≠ some b) → w'.heap[b]? = w.heap[b]?
  hps : (h < hp.length ∧ hp' = hp.set h o) ∨ (h = hp.length ∧ hp' = hp ++ [o])
  sig : ∀ h', h' ≠ h → σ' h' = σ h'
  newg : ∀ g, σ' h = some g → (σ h = some g ∧ ∃ oh, hp[h]? = some oh ∧ oh.k.mut) ∨ w.heap.size ≤ g
  grow : ∀ oh, hp[h]? = some oh → (oh.k.mut ∨ (oh.es = [] ∧ o.es ≠ [])) ∧ oh.es.length ≤ o.es.length ∧ (o.es.length = oh.es.length → o.k ≠ .dead → o.z = oh.z ∧ σ' h = σ h ∧ ∀ g, σ h = some g → bsz w' g = bsz w g)

theorem Chg.get {h : Nat} {o : DObj} (c : Chg K F σ hp w h o F' σ' hp' w') : hp'[h]? = some o := by
  rcases c.hps with ⟨hl, rfl⟩ | ⟨rfl, rfl⟩
  · simp [hl]
  · simp

theorem Chg.getO {h : Nat} {o : DObj} (c : Chg K F σ hp w h o F' σ' hp' w') {h' : Nat} (hne : h' ≠ h) : hp'[h']? = hp[h']? := by
  rcases c.hps with ⟨hl, rfl⟩ | ⟨rfl, rfl⟩
  · rw [List.getElem?_set_ne (Ne.symm hne)]
  · rcases Nat.lt_or_ge h' hp.length with h1 | h1
    · rw [List.getElem?_append_left h1]
    · rw [List.getElem?_eq_none h1, List.getElem?_eq_none (by simp; omega)]

theorem Chg.keep [Inhabited Env] {h : Nat} {o : DObj} (c : Chg K F σ hp w h o F' σ' hp' w') (hs : SimH K F σ hp w) {b : Nat} (hb : F b ∨ K b) : w'.heap[b]? = w.heap[b]? := by
  refine c.heap b (hb.elim (hs.fb b) (hs.kb b)) fun oh hoh hm e => ?_
  obtain ⟨h1, h2⟩ := hs.mut_nF hoh hm e
  exact hb.elim h1 h2

theorem Chg.keepO [Inhabited Env] {h : Nat} {o : DObj} (c : Chg K F σ hp w h o F' σ' hp' w') (hs : SimH K F σ hp w) {h' : Nat} {o' : DObj} (hne : h' ≠ h) (ho' : hp[h']? = some o') (hd : o'.k ≠ .dead) {g : Nat} (hg : σ h' = some g) :
    w'.heap[g]? = w.heap[g]? := by
  by_cases hm : o'.k.mut
  · exact c.heap g (hs.blk_lt ho' hd hg) fun oh hoh hmh e => hne (hs.inj _ _ _ _ _ ho' hm hoh hmh hg e)
  · exact c.keep hs (.inl (hs.frz_F ho' (mut_or _ hd hm) hg))

theorem Chg.hm [Inhabited Env] {h : Nat} {o : DObj} (c : Chg K F σ hp w h o F' σ' hp' w') (hs : SimH K F σ hp w) : HM F σ hp w F' σ' hp' w' := by
  refine ⟨c.hF, fun b hb => c.keep hs (.inl hb), ?_, fun h' o' ho' => ?_⟩
  · rcases c.hps with ⟨hl, rfl⟩ | ⟨rfl, rfl⟩ <;> simp
  · by_cases hne : h' = h
    · subst hne
      obtain ⟨hm, g1, g2⟩ := c.grow o' ho'
      refine ⟨o, c.get, g1, fun hd he => ⟨?_, g2 he hd⟩⟩
      rcases hm with (e | e) | ⟨e1, e2⟩
      · rw [e]; simp
      · rw [e]; simp
      · rw [e1] at he; exact absurd (List.eq_nil_of_length_eq_zero he) e2
    · refine ⟨o', (c.getO hne).trans ho', Nat.le_refl _, fun hd _ => ⟨hd, rfl, c.sig _ hne, fun g hg => bsz_of (c.keepO hs hne ho' hd hg)⟩⟩

theorem Chg.sim [Inhabited Env] {h : Nat} {o : DObj} (c : Chg K F σ hp w h o F' σ' hp' w') (hs : SimH K F σ hp w) (ho : ORep K F' σ' hp' w' h o) : SimH K F' σ' hp' w' := by
  have hm := c.hm hs
  refine ⟨fun h' o' ho' => ?_, fun h1 h2 o1 o2 g e1 m1 e2 m2 s1 s2 => ?_, c.ltF, fun b hb => Nat.lt_of_lt_of_le (hs.kb b hb) c.size, hs.tab.mono hm.keepF hm.mono⟩
  · by_cases hne : h' = h
    · subst hne
      rw [c.get] at ho'; injection ho' with ho'; subst ho'; exact ho
    · rw [c.getO hne] at ho'
      have old := hs.obj _ _ ho'
      have hk := fun (hd : o'.k ≠ .dead) (g : Nat) (hg : σ h' = some g) => c.keepO hs hne ho' hd hg
      have nF : ∀ g, g < w.heap.size → ¬ F g → ¬ F' g := fun g hl hn hF => (c.newF g hF).elim hn (fun h => by omega)
      unfold ORep at old ⊢
      split
      · trivial
      · rename_i hkk
        rw [hkk] at old; dsimp only at old
        rcases old with ⟨h0, h1⟩ | ⟨g, hg, h1, h2, hb⟩
        · exact .inl ⟨h0, (c.sig _ hne).trans h1⟩
        · exact .inr ⟨g, (c.sig _ hne).trans hg, nF g hb.lt h1, h2, hb.mono (hk (by rw [hkk]; simp) g hg) fun d v h => ⟨h.1.mono hm.mono hm.keepF, h.2⟩⟩
      · rename_i hkk
        rw [hkk] at old; dsimp only at old
        rcases old with ⟨h0, h1⟩ | ⟨g, hg, h1, hb⟩
        · exact .inl ⟨h0, (c.sig _ hne).trans h1⟩
        · exact .inr ⟨g, (c.sig _ hne).trans hg, c.hF _ h1, hb.mono (hk (by rw [hkk]; simp) g hg) fun d v h => ⟨h.1.mono hm.mono hm.keepF, h.2⟩⟩
      · rename_i hkk
        rw [hkk] at old; dsimp only at old
        obtain ⟨g, hg, h1, h2, hb⟩ := old
        exact ⟨g, (c.sig _ hne).trans hg, nF g hb.lt h1, h2, hb.mono (hk (by rw [hkk]; simp) g hg) fun d v h => h.mono hm⟩
  · by_cases n1 : h1 = h
    · by_cases n2 : h2 = h
      · rw [n1, n2]
      · exfalso
        subst n1
        rw [c.getO n2] at e2
        rw [c.sig _ n2] at s2
        have hl2 := hs.blk_lt e2 (by rcases m2 with e | e <;> rw [e] <;> simp) s2
        rcases c.newg g s1 with ⟨sg, oh, hoh, hmh⟩ | hge
        · exact n2 (hs.inj _ _ _ _ _ e2 m2 hoh hmh s2 sg)
        · omega
    · by_cases n2 : h2 = h
      · exfalso
        subst n2
        rw [c.getO n1] at e1
        rw [c.sig _ n1] at s1
        have hl1 := hs.blk_lt e1 (by rcases m1 with e | e <;> rw [e] <;> simp) s1
        rcases c.newg g s2 with ⟨sg, oh, hoh, hmh⟩ | hge
        · exact n1 (hs.inj _ _ _ _ _ e1 m1 hoh hmh s1 sg)
        · omega
      · rw [c.getO n1] at e1
        rw [c.getO n2] at e2
        rw [c.sig _ n1] at s1
        rw [c.sig _ n2] at s2
        exact hs.inj _ _ _ _ _ e1 m1 e2 m2 s1 s2

theorem Chg.moves [Inhabited Env] {h : Nat} {o : DObj} (c : Chg K F σ hp w h o F' σ' hp' w') (hs : SimH K F σ hp w) : Moves K F w F' w' :=
  ⟨c.os, c.tape, c.output, c.size, fun b hb => c.keep hs (.inr hb), fun b hb => c.keep hs (.inl hb), c.hF, fun b hb => (c.newF b hb).imp id fun h hk => by have := hs.kb b hk; omega⟩

/-- Nothing but new blocks, some of them for good. -/
theorem SimH.ext [Inhabited Env] (hs : SimH K F σ hp w) (os : w'.os = w.os) (tape : w'.tape = w.tape) (output : w'.output = w.output) (size : w.heap.size ≤ w'.heap.size) (heap : ∀ b, b < w.heap.size → w'.heap[b]? = w.heap[b]?)
    (hF : ∀ b, F b → F' b) (newF : ∀ b, F' b → F b ∨ w.heap.size ≤ b) (ltF : ∀ b, F' b → b < w'.heap.size) :
    SimH K F' σ hp w' ∧ Moves K F w F' w' ∧ HM F σ hp w F' σ hp w' := by
  have hm : HM F σ hp w F' σ hp w' := ⟨hF, fun b hb => heap b (hs.fb b hb), Nat.le_refl _, fun h o ho => ⟨o, ho, Nat.le_refl _, fun hd _ => ⟨hd, rfl, rfl, fun g hg => bsz_of (heap g (hs.blk_lt ho hd hg))⟩⟩⟩
  refine ⟨⟨fun h o ho => ?_, hs.inj, ltF, fun b hb => Nat.lt_of_lt_of_le (hs.kb b hb) size, hs.tab.mono hm.keepF hm.mono⟩, ⟨os, tape, output, size, fun b hb => heap b (hs.kb b hb), fun b hb => heap b (hs.fb b hb), hF, fun b hb => (newF b hb).imp id fun h hk => by have := hs.kb b hk; omega⟩, hm⟩
  have old := hs.obj _ _ ho
  have nF : ∀ g, g < w.heap.size → ¬ F g → ¬ F' g := fun g hl hn hF => (newF g hF).elim hn (fun h => by omega)
  unfold ORep at old ⊢
  split
  · trivial
  · rename_i hkk
    rw [hkk] at old; dsimp only at old
    rcases old with ⟨h0, h1⟩ | ⟨g, hg, h1, h2, hb⟩
    · exact .inl ⟨h0, h1⟩
    · exact .inr ⟨g, hg, nF g hb.lt h1, h2, hb.mono (heap g hb.lt) fun d v h => ⟨h.1.mono hm.mono hm.keepF, h.2⟩⟩
  · rename_i hkk
    rw [hkk] at old; dsimp only at old
    rcases old with ⟨h0, h1⟩ | ⟨g, hg, h1, hb⟩
    · exact .inl ⟨h0, h1⟩
    · exact .inr ⟨g, hg, hF _ h1, hb.mono (heap g hb.lt) fun d v h => ⟨h.1.mono hm.mono hm.keepF, h.2⟩⟩
  · rename_i hkk
    rw [hkk] at old; dsimp only at old
    obtain ⟨g, hg, h1, h2, hb⟩ := old
    exact ⟨g, hg, nF g hb.lt h1, h2, hb.mono (heap g hb.lt) fun d v h => h.mono hm⟩

/-- An object of immutable content is frozen. -/
theorem SimH.freeze [Inhabited Env] (hs : SimH K F σ hp w) {h : Nat} {o : DObj} (ho : hp[h]? = some o) (hk : o.k = .imm) :
    SimH K (fun b => F b ∨ σ h = some b) σ (hp.set h { o with k := .frz }) w ∧ Moves K F w (fun b => F b ∨ σ h = some b) w ∧ HM F σ hp w (fun b => F b ∨ σ h = some b) σ (hp.set h { o with k := .frz }) w := by
  have hl : h < hp.length := by
    rcases Nat.lt_or_ge h hp.length with h' | h'
    · exact h'
    · rw [List.getElem?_eq_none h'] at ho; cases ho
  have hkd : o.k ≠ .dead := by rw [hk]; simp
  have hgetO : ∀ h', h' ≠ h → (hp.set h { o with k := .frz })[h']? = hp[h']? := fun h' hne => by rw [List.getElem?_set_ne (Ne.symm hne)]
  have hm : HM F σ hp w (fun b => F b ∨ σ h = some b) σ (hp.set h { o with k := .frz }) w := by
    refine ⟨fun b hb => .inl hb, fun b hb => rfl, by simp, fun h' o' ho' => ?_⟩
    by_cases hne : h' = h
    · subst hne
      rw [ho] at ho'; injection ho' with e; subst e
      exact ⟨{ o with k := .frz }, by simp [hl], Nat.le_refl _, fun _ _ => ⟨hkd, rfl, rfl, fun _ _ => rfl⟩⟩
    · exact ⟨o', (hgetO _ hne).trans ho', Nat.le_refl _, fun hd _ => ⟨hd, rfl, rfl, fun _ _ => rfl⟩⟩
  refine ⟨⟨fun h' o' ho' => ?_, fun h1 h2 o1 o2 g e1 m1 e2 m2 s1 s2 => ?_, fun b hb => hb.elim (hs.fb b) fun e => hs.blk_lt ho hkd e, hs.kb, hs.tab.mono hm.keepF hm.mono⟩, ⟨rfl, rfl, rfl, Nat.le_refl _, fun _ _ => rfl, fun _ _ => rfl, fun b hb => .inl hb, fun b hb => hb.imp id fun e => (hs.mut_nF ho (.inl hk) e).2⟩, hm⟩
  · by_cases hne : h' = h
    · subst hne
      have e : o' = { o with k := .frz } := by simpa [hl] using ho'.symm
      subst e
      have old := hs.obj _ _ ho
      unfold ORep at old ⊢
      rw [hk] at old; dsimp only at old ⊢
      rcases old with h0 | ⟨g, hg, h1, h2, hb⟩
      · exact .inl h0
      · exact .inr ⟨g, hg, .inr hg, hb.mono rfl fun d v h => ⟨h.1.mono hm.mono hm.keepF, h.2⟩⟩
    · rw [hgetO _ hne] at ho'
      have old := hs.obj _ _ ho'
      have nF : ∀ (hm' : o'.k.mut) (g : Nat), σ h' = some g → ¬ F g → ¬ (F g ∨ σ h = some g) := fun hm' g hg hn hF => hF.elim hn fun e => hne (hs.inj _ _ _ _ _ ho' hm' ho (.inl hk) hg e)
      unfold ORep at old ⊢
      split
      · trivial
      · rename_i hkk
        rw [hkk] at old; dsimp only at old
        rcases old with ⟨h0, h1⟩ | ⟨g, hg, h1, h2, hb⟩
        · exact .inl ⟨h0, h1⟩
        · exact .inr ⟨g, hg, nF (.inl hkk) g hg h1, h2, hb.mono rfl fun d v h => ⟨h.1.mono hm.mono hm.keepF, h.2⟩⟩
      · rename_i hkk
        rw [hkk] at old; dsimp only at old
        rcases old with ⟨h0, h1⟩ | ⟨g, hg, h1, hb⟩
        · exact .inl ⟨h0, h1⟩
        · exact .inr ⟨g, hg, .inl h1, hb.mono rfl fun d v h => ⟨h.1.mono hm.mono hm.keepF, h.2⟩⟩
      · rename_i hkk
        rw [hkk] at old; dsimp only at old
        obtain ⟨g, hg, h1, h2, hb⟩ := old
        exact ⟨g, hg, nF (.inr hkk) g hg h1, h2, hb.mono rfl fun d v h => h.mono hm⟩
  · have frz : ∀ hh oo, (hp.set h { o with k := .frz })[hh]? = some oo → oo.k.mut → hh ≠ h := by
      intro hh oo e m ee
      subst ee
      have : oo = { o with k := .frz } := by simpa [hl] using e.symm
      subst this
      rcases m with m | m <;> cases m
    have n1 := frz _ _ e1 m1
    have n2 := frz _ _ e2 m2
    rw [hgetO _ n1] at e1
    rw [hgetO _ n2] at e2
    exact hs.inj _ _ _ _ _ e1 m1 e2 m2 s1 s2
end
end Go.Nk
