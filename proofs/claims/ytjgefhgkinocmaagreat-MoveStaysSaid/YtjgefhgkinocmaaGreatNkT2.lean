/- What an iterator holds: a cell of its own goes over to it. -/
import Derived.Test.YtjgefhgkinocmaaGreatNkT1
set_option linter.all false
namespace Go.Nk
open Go.RowKit
section
variable {P : Program} {K F : Nat → Prop} {σ : Nat → Option Nat} {hp : List DObj} {w : World}

theorem hm0 {F : Nat → Prop} {σ : Nat → Option Nat} {hp : List DObj} {w : World} : HM F none_ [] w F σ hp w :=
  ⟨fun _ h => h, fun _ _ => rfl, Nat.zero_le _, fun h o ho => by simp at ho⟩

theorem imm_rep {F : Nat → Prop} {σ : Nat → Option Nat} {hp : List DObj} {w : World} {d : DV} {v : Value} (h : VRep F σ hp w d v) (hd : d.immB = true) : VRep F none_ [] w d v := by
  cases h with
  | imm h => exact .imm h
  | _ => simp [DV.immB] at hd

/-- An object is forgotten, its block is another's. -/
theorem SimH.kill [Inhabited Env] (hs : SimH K F σ hp w) {h g : Nat} {o : DObj} (ho : hp[h]? = some o) (hk : o.k.mut) (hg : σ h = some g) :
    SimH (fun b => K b ∨ b = g) F σ (hp.set h { o with k := .dead }) w ∧ HM F σ hp w F σ (hp.set h { o with k := .dead }) w := by
  have hlt := lt_of_some ho
  have hget : ∀ k : Nat, (hp.set h { o with k := .dead })[k]? = if k = h then some { o with k := .dead } else hp[k]? := by
    intro k
    by_cases e : k = h
    · subst e; rw [if_pos rfl]; simp [hlt]
    · rw [if_neg e, List.getElem?_set_ne (Ne.symm e)]
  generalize hgen : hp.set h { o with k := .dead } = hp2 at *
  have hl2 : hp2.length = hp.length := by rw [← hgen]; simp
  have hd : o.k ≠ .dead := by rcases hk with e | e <;> rw [e] <;> simp
  have hm : HM F σ hp w F σ hp2 w := by
    refine ⟨fun _ h => h, fun _ _ => rfl, by omega, fun k o' ho' => ?_⟩
    rw [hget]
    by_cases e : k = h
    · subst e
      rw [ho] at ho'; injection ho' with ho'; subst ho'
      rw [if_pos rfl]
      exact ⟨_, rfl, Nat.le_refl _, fun hd => absurd rfl hd⟩
    · rw [if_neg e]
      exact ⟨o', ho', Nat.le_refl _, fun hd _ => ⟨hd, rfl, rfl, fun _ _ => rfl⟩⟩
  refine ⟨⟨fun k o' ho' => ?_, fun k1 k2 o1 o2 g' e1 m1 e2 m2 s1 s2 => ?_, hs.fb, fun b hb => hb.elim (hs.kb b) fun e => e ▸ hs.blk_lt ho hd hg, hs.tab⟩, hm⟩
  · rw [hget] at ho'
    by_cases e : k = h
    · rw [if_pos e] at ho'; injection ho' with ho'; subst ho'
      unfold ORep; trivial
    · rw [if_neg e] at ho'
      have old := hs.obj k o' ho'
      have ne : ∀ g', o'.k.mut → σ k = some g' → g' ≠ g := fun g' hm hg' e2 => e (hs.inj k h o' o g ho' hm ho hk (e2 ▸ hg') hg)
      unfold ORep at old ⊢
      split
      · trivial
      · rename_i hkk
        rw [hkk] at old; dsimp only at old
        rcases old with h0 | ⟨g', h1, h2, h3, h4⟩
        · exact .inl h0
        · exact .inr ⟨g', h1, h2, fun hh => hh.elim h3 (ne g' (.inl hkk) h1), h4⟩
      · rename_i hkk
        rw [hkk] at old; dsimp only at old
        exact old
      · rename_i hkk
        rw [hkk] at old; dsimp only at old
        obtain ⟨g', h1, h2, h3, h4⟩ := old
        exact ⟨g', h1, h2, fun hh => hh.elim h3 (ne g' (.inr hkk) h1), h4.mono rfl fun d v hr => hr.mono hm⟩
  · rw [hget] at e1 e2
    by_cases q1 : k1 = h
    · rw [if_pos q1] at e1; injection e1 with e1; subst e1
      rcases m1 with m1 | m1 <;> cases m1
    by_cases q2 : k2 = h
    · rw [if_pos q2] at e2; injection e2 with e2; subst e2
      rcases m2 with m2 | m2 <;> cases m2
    rw [if_neg q1] at e1
    rw [if_neg q2] at e2
    exact hs.inj k1 k2 o1 o2 g' e1 m1 e2 m2 s1 s2

def CapR (F : Nat → Prop) (σ : Nat → Option Nat) (hp : List DObj) (w : World) (d : DV) (v : Value) : Prop :=
  (d.immB = true → VRep F none_ [] w d v) ∧ ∀ h L i j, d = .ptr h L i j → (∃ o, hp[h]? = some o) → VRep F σ hp w d v

theorem capR_of {d : DV} {v : Value} (h : VRep F σ hp w d v) : CapR F σ hp w d v := ⟨imm_rep h, fun _ _ _ _ _ _ => h⟩
theorem capR_cut {d : DV} {v : Value} (h : VRep F σ hp w d v) (m : Nat) : CapR F σ ((hp.take m).map (DObj.cut m)) w d v := by
  refine ⟨imm_rep h, ?_⟩
  rintro k L i j rfl ⟨o, ho⟩
  have := h.cutV m
  have hl := (cut_get ho).1
  have e : (DV.ptr k L i j).cut m = .ptr k L i j := by simp [DV.cut, DV.inB, hl]
  rwa [e] at this

theorem caps_split [Inhabited Env] (hs : SimH K F σ hp w) : ∀ {caps : List DV} {cv : List Value}, All2 (CapR F σ hp w) caps cv → (capsOf hp caps).1 →
    ∃ (B : Nat → Prop) (σ' : Nat → Option Nat), (∀ b, B b → b < w.heap.size ∧ ¬ F b ∧ ¬ K b) ∧ SimH (fun b => K b ∨ B b) F σ (capsOf hp caps).2.2 w ∧ HM F σ hp w F σ (capsOf hp caps).2.2 w ∧
      SimH (fun b => b < w.heap.size ∧ ¬ B b) F σ' (openC (capsOf hp caps).2.1).2 w ∧ All2 (VRep F σ' (openC (capsOf hp caps).2.1).2 w) (openC (capsOf hp caps).2.1).1 cv
  | [], cv, hv, _ => by
    refine ⟨fun _ => False, none_, fun b hb => hb.elim, hs.weak fun b hb => hb.elim id False.elim, .refl _ _ _ _, ⟨fun h o ho => by simp [capsOf, openC] at ho, fun h h' o o' g e1 => by simp [capsOf, openC] at e1, hs.fb, fun b hb => hb.1, hs.tab⟩, ?_⟩
    exact ⟨hv.1, fun j d hd => by simp [capsOf, openC] at hd⟩
  | d :: r, cv, hv, hc => by
    obtain ⟨v, cv', rfl, h0, h1⟩ := hv.cons
    by_cases hd : ∃ h L i j, d = .ptr h L i j
    · obtain ⟨h, L, i, j, rfl⟩ := hd
      unfold capsOf at hc ⊢
      cases ho : hp[h]? with
      | none => simp [ho] at hc
      | some o =>
        simp only [ho] at hc ⊢
        obtain ⟨hk, hl, rfl, rfl, rfl, him, hr⟩ := hc
        have hvr := h0.2 h 1 0 0 rfl ⟨o, ho⟩
        obtain ⟨_, hx⟩ := hvr.ptr_inv
        obtain ⟨_, hx⟩ := hx o ho
        obtain ⟨g, hg, hvv⟩ := hx (by rw [hk]; simp) hl
        have old := hs.obj h o ho
        unfold ORep at old
        rw [hk] at old; dsimp only at old
        obtain ⟨g', hg', nF, nK, c, ty, e1, e2, e3, e4⟩ := old
        rw [hg] at hg'; injection hg' with hg'; subst hg'
        have hglt := hs.blk_lt ho (by rw [hk]; simp) hg
        obtain ⟨k1, k2⟩ := hs.kill ho (.inr hk) hg
        have hrow : o.es[0]? = some (o.es.getD 0 []) := by
          cases he : o.es with
          | nil => simp [he] at hl
          | cons x y => simp
        have hz : (o.es.getD 0 []).length = o.z := e3 0 _ hrow
        generalize hrw : o.es.getD 0 [] = row at *
        have hs2 : SimH (fun b => b < w.heap.size ∧ ¬ b = g) F (fun k => if k = 0 then some g else none) [⟨.loc, row.length, [row]⟩] w := by
          refine ⟨fun k o' ho' => ?_, fun k1 k2 o1 o2 g' a1 m1 a2 m2 s1 s2 => ?_, hs.fb, fun b hb => hb.1, hs.tab⟩
          · have hk0 : k = 0 := by
              rcases Nat.eq_zero_or_pos k with e | e
              · exact e
              · rw [List.getElem?_eq_none (by simp; omega)] at ho'; cases ho'
            subst hk0
            simp only [List.getElem?_cons_zero, Option.some.injEq] at ho'
            subst ho'
            unfold ORep; dsimp only
            refine ⟨g, if_pos rfl, nF, fun hh => hh.2 rfl, c, ty, e1, ?_, fun i e he => ?_, fun i j d hd => ?_⟩
            · rw [hl, Nat.one_mul] at e2; simpa [hz] using e2
            · have : e = row := by
                rcases Nat.eq_zero_or_pos i with q | q
                · subst q; simpa using he.symm
                · rw [List.getElem?_eq_none (by simp; omega)] at he; cases he
              rw [this]
            · have hi0 : i = 0 := by
                rcases Nat.eq_zero_or_pos i with e | e
                · exact e
                · unfold cellAt at hd; rw [List.getElem?_eq_none (by simp; omega)] at hd; cases hd
              subst hi0
              have hd' : row[j]? = some d := by simpa [cellAt] using hd
              obtain ⟨u, hu, hru⟩ := e4 0 j d (by simp [cellAt, hrow, hd'])
              refine ⟨u, by rw [Nat.zero_mul] at hu ⊢; exact hu, (imm_rep hru (him d (List.mem_of_getElem? hd'))).mono hm0⟩
          · have z : ∀ {k : Nat} {o' : DObj}, [(⟨.loc, row.length, [row]⟩ : DObj)][k]? = some o' → k = 0 := fun {k o'} hh => by
              rcases Nat.eq_zero_or_pos k with e | e
              · exact e
              · rw [List.getElem?_eq_none (by simp; omega)] at hh; cases hh
            rw [z a1, z a2]
        refine ⟨fun b => b = g, _, fun b hb => hb ▸ ⟨hglt, nF, nK⟩, k1, k2, by simpa only [openC] using hs2, ?_⟩
        simp only [openC]
        refine .mk_cons ?_ ⟨h1.1, fun j d hd => ?_⟩
        · rw [hvv]
          refine .ptr 0 1 0 0 _ rfl (by simp) fun o' ho' => ?_
          simp only [List.getElem?_cons_zero, Option.some.injEq] at ho'
          subst ho'
          exact ⟨by simp, fun _ _ => ⟨g, if_pos rfl, by simp⟩⟩
        · obtain ⟨u, hu, hru⟩ := h1.2 j d hd
          exact ⟨u, hu, (hru.1 (List.all_eq_true.1 hr d (List.mem_of_getElem? hd))).mono hm0⟩
    · have e1 : capsOf hp (d :: r) = (d.immB = true ∧ (capsOf hp r).1, d :: (capsOf hp r).2.1, (capsOf hp r).2.2) := by
        cases d <;> first | rfl | exact absurd ⟨_, _, _, _, rfl⟩ hd
      rw [e1] at hc ⊢
      have e2 : ∀ x : List DV, openC (d :: x) = (d :: (openC x).1, (openC x).2) := fun x => by
        have := hc.1
        cases d <;> first | rfl | simp [DV.immB] at this
      obtain ⟨B, σ', h2, h3, h4, h5, h6⟩ := caps_split hs h1 hc.2
      dsimp only
      rw [e2]
      exact ⟨B, σ', h2, h3, h4, h5, .mk_cons ((h0.1 hc.1).mono hm0) h6⟩
end
end Go.Nk
