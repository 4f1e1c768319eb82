/- Every order of a region that draws comes to what the order of the text comes to. -/
import Derived.Test.YtjgefhgkinocmaaGreatNkR
set_option linter.all false
namespace Go.Nk
open Go.RowKit

noncomputable def dact (C : Orc) (d : DOper) (s : DS) : Res :=
  match d.guard with
  | none => dvalX C d.op s
  | some (g, b) => match get g s.fr with
    | .bool b' => if b' = b then dvalX C d.op s else ⟨True, .tup [], s.hp⟩
    | .tup [] => ⟨True, .tup [], s.hp⟩
    | _ => no

theorem dstep_act (C : Orc) (d : DOper) (s : DS) (K : DS → Prop) : dstep C d s K ↔ (dact C d s).pre ∧ K (s.put d.dst (dact C d s)) := by
  unfold dstep dact
  cases d.guard with
  | none => exact Iff.rfl
  | some gb =>
    obtain ⟨g, b⟩ := gb
    dsimp only
    cases get g s.fr with
    | bool b' => dsimp only; split <;> simp
    | tup vs => cases vs <;> simp [no]
    | _ => simp [no]

theorem dact_congr (C : Orc) (d : DOper) {fr fr' : List (Nat × DV)} (hp : List DObj) (h : ∀ n ∈ d.looks, get n fr = get n fr') : dact C d ⟨fr, hp⟩ = dact C d ⟨fr', hp⟩ := by
  unfold dact
  have h1 : dvalX C d.op ⟨fr, hp⟩ = dvalX C d.op ⟨fr', hp⟩ := dvalX_congr C d.op hp fun n hn => h n (List.mem_append_left _ hn)
  cases hg : d.guard with
  | none => exact h1
  | some gb =>
    obtain ⟨g, b⟩ := gb
    have h2 : get g fr = get g fr' := h g (List.mem_append_right _ (by rw [hg]; simp))
    simp only [h1, h2]

theorem act0 (C : Orc) (d : DOper) (fr : List (Nat × DV)) (hp : List DObj) (hk : d.op.kindX = 0) (h : (dact C d ⟨fr, hp⟩).pre) :
    (dact C d ⟨fr, hp⟩).hp = hp ∧ ∀ hp2, (dact C d ⟨fr, hp2⟩).pre ∧ (dact C d ⟨fr, hp2⟩).val = (dact C d ⟨fr, hp⟩).val ∧ (dact C d ⟨fr, hp2⟩).hp = hp2 := by
  unfold dact at h ⊢
  cases hg : d.guard with
  | none => simp only [hg] at h ⊢; exact kind0X C d.op fr hp hk h
  | some gb =>
    obtain ⟨g, b⟩ := gb
    simp only [hg] at h ⊢
    cases hgt : get g fr with
    | bool b' =>
      simp only [hgt] at h ⊢
      by_cases hb : b' = b
      · simp only [if_pos hb] at h ⊢; exact kind0X C d.op fr hp hk h
      · simp only [if_neg hb]; simp
    | tup vs => cases vs with
      | nil => simp
      | cons => simp only [hgt, no] at h
    | _ => simp only [hgt, no] at h

theorem act1 (C : Orc) (d : DOper) (fr : List (Nat × DV)) (hp hp2 : List DObj) (hf : Fz hp hp2) (hk : d.op.kindX = 1) :
    ((dact C d ⟨fr, hp2⟩).pre ↔ (dact C d ⟨fr, hp⟩).pre) ∧ ((dact C d ⟨fr, hp⟩).pre → (dact C d ⟨fr, hp2⟩).val = (dact C d ⟨fr, hp⟩).val ∧ (dact C d ⟨fr, hp⟩).hp = hp ∧ (dact C d ⟨fr, hp2⟩).hp = hp2) := by
  have hk0 : d.op.kindX ≠ 0 ∧ d.op.kindX ≠ 7 ∧ d.op.kindX ≠ 8 ∧ d.op.kindX ≠ 9 ∧ d.op.kindX ≠ 10 := by omega
  obtain ⟨k1, k2, k3⟩ := kind1 C d.op fr hp hp2 hf ((kindX_eq hk0).symm.trans hk)
  unfold dact
  simp only [dvalX_eq hk0]
  cases hg : d.guard with
  | none => simp only; exact ⟨iff_of_eq k1, fun h => ⟨k2, k3 h⟩⟩
  | some gb =>
    obtain ⟨g, b⟩ := gb
    simp only
    cases hgt : get g fr with
    | bool b' =>
      simp only
      by_cases hb : b' = b
      · simp only [if_pos hb]; exact ⟨iff_of_eq k1, fun h => ⟨k2, k3 h⟩⟩
      · simp only [if_neg hb]; simp
    | tup vs => cases vs with
      | nil => simp
      | cons => simp [no]
    | _ => simp [no]

theorem act2 (C : Orc) (d : DOper) (fr : List (Nat × DV)) (hp : List DObj) (hk : d.op.kindX = 2) (h : (dact C d ⟨fr, hp⟩).pre) : Fz hp (dact C d ⟨fr, hp⟩).hp := by
  have hk0 : d.op.kindX ≠ 0 ∧ d.op.kindX ≠ 7 ∧ d.op.kindX ≠ 8 ∧ d.op.kindX ≠ 9 ∧ d.op.kindX ≠ 10 := by omega
  unfold dact at h ⊢
  simp only [dvalX_eq hk0] at h ⊢
  cases hg : d.guard with
  | none => simp only [hg] at h ⊢; exact kind2 C d.op fr hp ((kindX_eq hk0).symm.trans hk) h
  | some gb =>
    obtain ⟨g, b⟩ := gb
    simp only [hg] at h ⊢
    cases hgt : get g fr with
    | bool b' =>
      simp only [hgt] at h ⊢
      by_cases hb : b' = b
      · simp only [if_pos hb] at h ⊢; exact kind2 C d.op fr hp ((kindX_eq hk0).symm.trans hk) h
      · simp only [if_neg hb]; exact .refl _
    | tup vs => cases vs with
      | nil => exact .refl _
      | cons => simp only [hgt, no] at h
    | _ => simp only [hgt, no] at h

theorem act_guard (C : Orc) (d : DOper) (fr : List (Nat × DV)) {hp : List DObj} (h : (dact C d ⟨fr, hp⟩).pre) :
    ((∀ hp2, dact C d ⟨fr, hp2⟩ = dvalX C d.op ⟨fr, hp2⟩)) ∨ (∀ hp2, dact C d ⟨fr, hp2⟩ = ⟨True, .tup [], hp2⟩) := by
  unfold dact at h ⊢
  cases hg : d.guard with
  | none => exact .inl fun _ => rfl
  | some gb =>
    obtain ⟨g, b⟩ := gb
    simp only [hg] at h ⊢
    cases hgt : get g fr with
    | bool b' =>
      simp only
      by_cases hb : b' = b
      · simp only [if_pos hb]; exact .inl fun _ => trivial
      · simp only [if_neg hb]; exact .inr fun _ => trivial
    | tup vs => cases vs with
      | nil => exact .inr fun _ => rfl
      | cons => simp only [hgt, no] at h
    | _ => simp only [hgt, no] at h

theorem act7 (C : Orc) (d : DOper) (fr : List (Nat × DV)) (hp : List DObj) (hk : d.op.kindX = 7) (h : (dact C d ⟨fr, hp⟩).pre) : (dact C d ⟨fr, hp⟩).hp = hp := by
  rcases act_guard C d fr h with e | e
  · rw [e]
    cases hd : d.op <;> rw [hd] at hk <;> first | (cases hk; done) | rfl | skip
    all_goals exact absurd hk (by simp [DOp.kindX, DOp.kind])
  · rw [e]

/-- The slot through which a reading goes. -/
def viaD : DOp → Option Nat
  | .load _ (.t n) | .faddr _ (.t n) | .nilck (.t n) | .len (.t n) => some n
  | .iaddr _ (.t n) _ | .iaddrA _ _ (.t n) _ => some n
  | _ => none

theorem via_kind {d : DOp} {n : Nat} (h : viaD d = some n) : d.kindX = 1 := by
  cases d <;> first | rfl | simp [viaD] at h

theorem via_only (C : Orc) (d : DOp) {n : Nat} (hv : viaD d = some n) (fr : List (Nat × DV)) {hp hp' : List DObj} (h : ∀ h', hdl (get n fr) = some h' → hp'[h']? = hp[h']?) :
    (dval C d ⟨fr, hp'⟩).pre = (dval C d ⟨fr, hp⟩).pre ∧ (dval C d ⟨fr, hp'⟩).val = (dval C d ⟨fr, hp⟩).val := by
  have hc : cellsAt hp' (get n fr) = cellsAt hp (get n fr) := by
    unfold cellsAt
    split
    · rfl
    · rename_i e; rw [h _ (by rw [e]; rfl)]
    · rfl
  have ha : ∀ h' L, hdl (get n fr) = some h' → alive hp' h' L = alive hp h' L := fun h' L e => by unfold alive; rw [h _ e]
  cases d <;> simp only [viaD, reduceCtorEq] at hv
  case load s x => cases x <;> simp only [Option.some.injEq, reduceCtorEq] at hv; subst hv; simp only [dval, DA.ev, hc]; exact ⟨trivial, trivial⟩
  case faddr o x =>
    cases x <;> simp only [Option.some.injEq, reduceCtorEq] at hv; subst hv
    simp only [dval, DA.ev]
    split
    · exact ⟨rfl, rfl⟩
    · rename_i e; exact ⟨ha _ _ (by rw [e]; rfl), rfl⟩
    · exact ⟨rfl, rfl⟩
  case nilck x =>
    cases x <;> simp only [Option.some.injEq, reduceCtorEq] at hv; subst hv
    simp only [dval, DA.ev]
    split
    · rename_i e; exact ⟨ha _ _ (by rw [e]; rfl), rfl⟩
    · exact ⟨rfl, rfl⟩
    · exact ⟨rfl, rfl⟩
    · exact ⟨rfl, rfl⟩
    · exact ⟨rfl, rfl⟩
  case len x =>
    cases x <;> simp only [Option.some.injEq, reduceCtorEq] at hv; subst hv
    simp only [dval, DA.ev]
    split
    · exact ⟨rfl, rfl⟩
    · exact ⟨rfl, rfl⟩
    · rename_i e; exact ⟨ha _ _ (by rw [e]; rfl), rfl⟩
    · exact ⟨rfl, rfl⟩
  case iaddrA m z x i =>
    cases x <;> simp only [Option.some.injEq, reduceCtorEq] at hv; subst hv
    simp only [dval, DA.ev]
    split
    · exact ⟨rfl, rfl⟩
    · rename_i e _; exact ⟨congrArg (· ∧ _) (ha _ _ (by rw [e]; rfl)), rfl⟩
    · exact ⟨rfl, rfl⟩
  case iaddr z x i =>
    cases x <;> simp only [Option.some.injEq, reduceCtorEq] at hv; subst hv
    simp only [dval, DA.ev]
    split
    · exact ⟨rfl, rfl⟩
    · rename_i e _
      rw [h _ (by rw [e]; rfl)]
      split <;> exact ⟨rfl, rfl⟩
    · exact ⟨rfl, rfl⟩

theorem low_row {lo : Nat} {x y : DObj} (h : Low lo (some x) (some y)) (i j : Nat) (hj : j < lo) : ((y.es.getD i []).drop j).getD 0 .undef = ((x.es.getD i []).drop j).getD 0 .undef := by
  have := congrArg (fun l => l[j]?) (h.2.2.2 i).2
  simp only [List.getElem?_take, if_pos hj] at this
  simp only [List.getD_eq_getElem?_getD, List.getElem?_drop, Nat.add_zero]
  simp only [List.getD_eq_getElem?_getD] at this
  rw [this]
theorem low_rows {lo : Nat} {x y : DObj} (h : Low lo (some x) (some y)) (i j n : Nat) (hj : j + n ≤ lo) : ((y.es.getD i []).drop j).take n = ((x.es.getD i []).drop j).take n := by
  have := congrArg (fun l => (l.drop j).take n) (h.2.2.2 i).2
  simp only [List.drop_take, List.take_take] at this
  rwa [Nat.min_eq_left (by omega)] at this

theorem via_low (C : Orc) (d : DOp) (lo : Nat) (fr : List (Nat × DV)) {o : Option Nat} {hp hp' : List DObj} (h : OnlyK o lo hp hp') (hv : viaLow lo fr d) :
    (dval C d ⟨fr, hp'⟩).pre = (dval C d ⟨fr, hp⟩).pre ∧ (dval C d ⟨fr, hp'⟩).val = (dval C d ⟨fr, hp⟩).val := by
  have hl : ∀ k, hp'[k]? = hp[k]? ∨ Low lo hp[k]? hp'[k]? := fun k => by
    by_cases e : o = some k
    · exact .inr ((h k).2 e)
    · exact .inl ((h k).1 e)
  have ha : ∀ k L, alive hp' k L = alive hp k L := fun k L => by
    unfold alive
    rcases hl k with e | e
    · rw [e]
    · cases e1 : hp[k]? <;> cases e2 : hp'[k]? <;> simp only [e1, e2, Low] at e ⊢
      rw [e.1, e.2.2.1]
  cases d <;> simp only [viaLow] at hv
  case faddr off x =>
    simp only [dval]
    cases x.ev fr <;> simp only [ha] <;> exact ⟨trivial, trivial⟩
  case nilck x =>
    simp only [dval]
    cases x.ev fr <;> simp only [ha] <;> exact ⟨trivial, trivial⟩
  case len x =>
    simp only [dval]
    cases x.ev fr <;> simp only [ha] <;> exact ⟨trivial, trivial⟩
  case iaddrA n z x i =>
    simp only [dval]
    cases x.ev fr <;> cases i.ev fr <;> simp only [ha] <;> exact ⟨trivial, trivial⟩
  case iaddr z x i =>
    simp only [dval]
    cases hx : x.ev fr <;> cases i.ev fr <;> simp only <;> try exact ⟨trivial, trivial⟩
    rename_i k L off len _ _
    rcases hl k with e | e
    · rw [e]; cases hp[k]? <;> exact ⟨rfl, rfl⟩
    · cases e1 : hp[k]? <;> cases e2 : hp'[k]? <;> simp only [e1, e2, Low] at e ⊢
      · exact ⟨trivial, trivial⟩
      · rw [e.1, e.2.1, e.2.2.1]; exact ⟨rfl, trivial⟩
  case load sz x =>
    simp only [dval, dLoad]
    cases hx : x.ev fr
    case ptr k L i j =>
      rcases hl k with e | e
      · simp only [cellsAt, e]; exact ⟨trivial, trivial⟩
      · cases e1 : hp[k]? <;> cases e2 : hp'[k]? <;> simp only [e1, e2, Low] at e
        · simp only [cellsAt, e1, e2]; exact ⟨trivial, trivial⟩
        · rename_i x1 y1
          have e' : Low lo (some x1) (some y1) := e
          have hln := (e.2.2.2 i).1
          simp only [cellsAt, e1, e2, e.1]
          by_cases hd : x1.k = .dead
          · rw [if_pos hd, if_pos hd]; cases sz <;> exact ⟨rfl, rfl⟩
          · rw [if_neg hd, if_neg hd]
            cases sz with
            | none =>
              simp only [hx] at hv
              simp only [low_row e' i j hv, List.length_drop, hln, e.2.2.1]
              exact ⟨trivial, trivial⟩
            | some n =>
              simp only [hx] at hv
              simp only [low_rows e' i j n hv, List.length_drop, hln, e.2.2.1]
              exact ⟨trivial, trivial⟩
    all_goals (simp only [cellsAt]; first | exact ⟨rfl, rfl⟩ | exact ⟨trivial, trivial⟩)

theorem kind1_hp (C : Orc) (d : DOp) (fr : List (Nat × DV)) (hp : List DObj) (hk : d.kind = 1) (h : (dval C d ⟨fr, hp⟩).pre) : (dval C d ⟨fr, hp⟩).hp = hp :=
  (kind1 C d fr hp hp (.refl _) hk).2.2 h |>.1

/-- What is read through is there. -/
theorem via_in (C : Orc) (d : DOp) {n : Nat} (hv : viaD d = some n) (fr : List (Nat × DV)) {hp : List DObj} (hpre : (dval C d ⟨fr, hp⟩).pre) {h' : Nat} (e : hdl (get n fr) = some h') : h' < hp.length := by
  rcases Nat.lt_or_ge h' hp.length with c | c
  · exact c
  have hn : hp[h']? = none := List.getElem?_eq_none c
  exfalso
  cases d <;> simp only [viaD, reduceCtorEq] at hv
  case load sz x =>
    cases x <;> simp only [Option.some.injEq, reduceCtorEq] at hv; subst hv
    revert hpre
    simp only [dval, dLoad, DA.ev]
    revert e
    cases get _ fr <;> simp only [hdl, Option.some.injEq, reduceCtorEq, false_implies]
    all_goals first | (rintro rfl; simp only [cellsAt, hn]; cases sz <;> simp; done) | (intro _; cases sz <;> simp [cellsAt])
  case faddr o x =>
    cases x <;> simp only [Option.some.injEq, reduceCtorEq] at hv; subst hv
    revert hpre
    simp only [dval, DA.ev]
    revert e
    cases get _ fr <;> simp only [hdl, Option.some.injEq, reduceCtorEq, false_implies]
    all_goals first | (rintro rfl; simp [alive, hn, no]; done) | (intro _; simp [no])
  case nilck x =>
    cases x <;> simp only [Option.some.injEq, reduceCtorEq] at hv; subst hv
    revert hpre
    simp only [dval, DA.ev]
    revert e
    cases get _ fr <;> simp only [hdl, Option.some.injEq, reduceCtorEq, false_implies]
    all_goals first | (rintro rfl; simp [alive, hn, no]; done) | (intro _; simp [no])
  case len x =>
    cases x <;> simp only [Option.some.injEq, reduceCtorEq] at hv; subst hv
    revert hpre
    simp only [dval, DA.ev]
    revert e
    cases get _ fr <;> simp only [hdl, Option.some.injEq, reduceCtorEq, false_implies]
    all_goals first | (rintro rfl; simp [alive, hn, no]; done) | (intro _; simp [no])
  case iaddrA m z x i =>
    cases x <;> simp only [Option.some.injEq, reduceCtorEq] at hv; subst hv
    revert hpre
    simp only [dval]
    rw [show (DA.t _).ev fr = get _ fr from rfl]
    revert e
    cases get _ fr <;> simp only [hdl, Option.some.injEq, reduceCtorEq, false_implies]
    all_goals first | (rintro rfl; cases i.ev fr <;> simp [alive, hn, no]; done) | (intro _; cases i.ev fr <;> simp [no])
  case iaddr z x i =>
    cases x <;> simp only [Option.some.injEq, reduceCtorEq] at hv; subst hv
    revert hpre
    simp only [dval]
    rw [show (DA.t _).ev fr = get _ fr from rfl]
    revert e
    cases get _ fr <;> simp only [hdl, Option.some.injEq, reduceCtorEq, false_implies]
    all_goals first | (rintro rfl; cases i.ev fr <;> simp [hn, no]; done) | (intro _; cases i.ev fr <;> simp [no])

theorem actS (C : Orc) (d : DOper) {n : Nat} (hv : viaD d.op = some n) (fr : List (Nat × DV)) {hp hp' : List DObj} (h : ∀ h', hdl (get n fr) = some h' → h' < hp.length → hp'[h']? = hp[h']?) (hpre : (dact C d ⟨fr, hp⟩).pre) :
    (dact C d ⟨fr, hp'⟩).pre ∧ (dact C d ⟨fr, hp'⟩).val = (dact C d ⟨fr, hp⟩).val ∧ (dact C d ⟨fr, hp'⟩).hp = hp' := by
  have hk := via_kind hv
  have hk0 : d.op.kindX ≠ 0 ∧ d.op.kindX ≠ 7 ∧ d.op.kindX ≠ 8 ∧ d.op.kindX ≠ 9 ∧ d.op.kindX ≠ 10 := by omega
  rcases act_guard C d fr hpre with e | e
  · simp only [dvalX_eq hk0] at e
    rw [e] at hpre
    rw [e, e]
    have e2 := via_only C d.op hv fr (fun h' e' => h h' e' (via_in C d.op hv fr hpre e'))
    have hp2 : (dval C d.op ⟨fr, hp'⟩).pre := by rw [e2.1]; exact hpre
    have hkk : d.op.kind = 1 := (kindX_eq hk0).symm.trans hk
    exact ⟨hp2, e2.2, kind1_hp C d.op fr hp' hkk hp2⟩
  · rw [e, e]; exact ⟨trivial, rfl, rfl⟩

theorem act8 (C : Orc) (d : DOper) {b : Nat} {e : DOp} (hd : d.op = .to b e) (fr : List (Nat × DV)) (hp : List DObj) (h : (dact C d ⟨fr, hp⟩).pre) : Only (hdl (get b fr)) hp (dact C d ⟨fr, hp⟩).hp := by
  rcases act_guard C d fr h with k | k
  · rw [k, hd] at h
    rw [k, hd]
    exact h.2
  · rw [k]; exact fun _ _ _ => rfl

theorem actR (C : Orc) (d : DOper) {lo : Nat} {e : DOp} (hd : d.op = .rk lo e) (fr : List (Nat × DV)) (hp : List DObj) (h : (dact C d ⟨fr, hp⟩).pre) :
    (dact C d ⟨fr, hp⟩).hp = hp := by
  rcases act_guard C d fr h with k | k
  · rw [k, hd]; rfl
  · rw [k]
theorem actRT (C : Orc) (d1 d2 : DOper) {lo lo' b : Nat} {e1 e2 : DOp} (h1 : d1.op = .rk lo e1) (h2 : d2.op = .tk b lo' e2) (hl : lo ≤ lo') (fr : List (Nat × DV)) (hp : List DObj) (p1 : (dact C d1 ⟨fr, hp⟩).pre) (p2 : (dact C d2 ⟨fr, hp⟩).pre) :
    (dact C d1 ⟨fr, (dact C d2 ⟨fr, hp⟩).hp⟩).pre ∧ (dact C d1 ⟨fr, (dact C d2 ⟨fr, hp⟩).hp⟩).val = (dact C d1 ⟨fr, hp⟩).val ∧ (dact C d1 ⟨fr, (dact C d2 ⟨fr, hp⟩).hp⟩).hp = (dact C d2 ⟨fr, hp⟩).hp := by
  rcases act_guard C d1 fr p1 with k | k
  · rw [k, h1] at p1
    rw [k, k, h1]
    have hh : ∃ o, OnlyK o lo' hp (dact C d2 ⟨fr, hp⟩).hp := by
      rcases act_guard C d2 fr p2 with q | q
      · rw [q, h2] at p2 ⊢; exact ⟨_, p2.2⟩
      · rw [q]; exact ⟨none, fun h => ⟨fun _ => rfl, fun e => (by cases e)⟩⟩
    obtain ⟨o, ho⟩ := hh
    have hlow : ∀ {d fr}, viaLow lo fr d → viaLow lo' fr d := fun {d fr} hv => by
      cases d <;> simp only [viaLow] at hv ⊢
      case load s x => cases s <;> simp only [] at hv ⊢ <;> split <;> simp_all <;> omega
    have e := via_low C e1 lo' fr ho (hlow p1.2.1)
    have hk : e1.kind = 1 := by have := p1.2.1; cases e1 <;> simp only [viaLow] at this <;> rfl
    have hp2 : (dval C e1 ⟨fr, (dact C d2 ⟨fr, hp⟩).hp⟩).pre := by rw [e.1]; exact p1.1
    exact ⟨⟨hp2, p1.2.1, kind1_hp C e1 fr _ hk hp2⟩, e.2, rfl⟩
  · rw [k, k]; exact ⟨trivial, rfl, rfl⟩

/-- Does an operation leave the heap as it is? -/
theorem actRz (C : Orc) (d : DOper) {z : Nat} {e : DOp} (hd : d.op = .rz z e) (fr : List (Nat × DV)) (hp : List DObj) (h : (dact C d ⟨fr, hp⟩).pre) :
    (dact C d ⟨fr, hp⟩).hp = hp := by
  rcases act_guard C d fr h with k | k
  · rw [k, hd]; rfl
  · rw [k]
/-- What is read through no object of z cells stays, whatever becomes of those, and of what is behind. -/
theorem actRzS (C : Orc) (d : DOper) {z : Nat} {e : DOp} (hd : d.op = .rz z e) (fr : List (Nat × DV)) {hp hp' : List DObj} (h : ∀ (i : Nat) (o : DObj), hp[i]? = some o → o.k ≠ .dead → o.z ≠ z → hp'[i]? = some o) (hpre : (dact C d ⟨fr, hp⟩).pre) :
    (dact C d ⟨fr, hp'⟩).pre ∧ (dact C d ⟨fr, hp'⟩).val = (dact C d ⟨fr, hp⟩).val ∧ (dact C d ⟨fr, hp'⟩).hp = hp' := by
  rcases act_guard C d fr hpre with k | k
  · rw [k, hd] at hpre; rw [k, k, hd]
    simp only [dvalX] at hpre ⊢
    obtain ⟨h1, h2⟩ := hpre
    have key : ∀ n, viaD e = some n → notZ z hp (get n fr) → (dval C e ⟨fr, hp'⟩).pre = (dval C e ⟨fr, hp⟩).pre ∧ (dval C e ⟨fr, hp'⟩).val = (dval C e ⟨fr, hp⟩).val ∧ notZ z hp' (get n fr) := fun n hn hz => by
      have hsame : ∀ h', hdl (get n fr) = some h' → hp'[h']? = hp[h']? := fun h' e' => by
        simp only [notZ, e'] at hz
        cases q : hp[h']? with
        | none => rw [q] at hz; exact hz.elim
        | some o => rw [q] at hz; exact h h' o q hz.1 hz.2
      obtain ⟨u1, u2⟩ := via_only C e hn fr hsame
      refine ⟨u1, u2, ?_⟩
      unfold notZ at hz ⊢
      cases q : hdl (get n fr) with
      | none => trivial
      | some h' => simp only [q] at hz ⊢; rw [hsame h' q]; exact hz
    have hv : ∃ n, viaD e = some n ∧ ∀ hp2, viaZ z ⟨fr, hp2⟩ e = notZ z hp2 (get n fr) := by
      cases e
      case load s x => cases x <;> first | exact ⟨_, rfl, fun _ => rfl⟩ | exact False.elim h2
      case faddr s x => cases x <;> first | exact ⟨_, rfl, fun _ => rfl⟩ | exact False.elim h2
      case nilck x => cases x <;> first | exact ⟨_, rfl, fun _ => rfl⟩ | exact False.elim h2
      case len x => cases x <;> first | exact ⟨_, rfl, fun _ => rfl⟩ | exact False.elim h2
      case iaddr n x y => cases x <;> first | exact ⟨_, rfl, fun _ => rfl⟩ | exact False.elim h2
      case iaddrA n m x y => cases x <;> first | exact ⟨_, rfl, fun _ => rfl⟩ | exact False.elim h2
      all_goals exact False.elim h2
    obtain ⟨n, hn, hq⟩ := hv
    rw [hq] at h2 ⊢
    obtain ⟨u1, u2, u3⟩ := key n hn h2
    rw [u1, u2]
    exact ⟨⟨h1, u3⟩, rfl, trivial⟩
  · rw [k, k]; exact ⟨trivial, rfl, rfl⟩

def stillD (d : DOp) : Bool := match d with
  | .rk .. => true
  | .rz .. => true
  | d => d.kindX == 7 || d.kindX == 1
theorem still_hp (C : Orc) (d : DOper) (hd : stillD d.op = true) (fr : List (Nat × DV)) (hp : List DObj) (h : (dact C d ⟨fr, hp⟩).pre) : (dact C d ⟨fr, hp⟩).hp = hp := by
  unfold stillD at hd
  split at hd
  · rename_i e; exact actR C d e fr hp h
  · rename_i e; exact actRz C d e fr hp h
  · simp only [Bool.or_eq_true, beq_iff_eq] at hd
    rcases hd with hd | hd
    · exact act7 C d fr hp hd h
    · exact ((act1 C d fr hp hp (.refl _) hd).2 h).2.1

theorem sepB_hdl {a b : DV} (h : sepB a b) : ∀ k, hdl a = some k → hdl b ≠ some k := by
  intro k e
  intro e'
  unfold hdl at e e'
  split at e <;> first | (cases e; done) | skip
  all_goals
    split at e' <;> first | (cases e'; done) | skip
  all_goals
    injection e with e; injection e' with e'; subst e
    simp only [sepB] at h
    exact h e'.symm

theorem actAA (C : Orc) (di dj : DOper) {h h' : Nat} {z z' : List DV} (h1 : di.op = .aa h z) (h2 : dj.op = .aa h' z') (hne : h ≠ h') (fr : List (Nat × DV)) (hp : List DObj) (p1 : (dact C di ⟨fr, hp⟩).pre) (p2 : (dact C dj ⟨fr, (dact C di ⟨fr, hp⟩).hp⟩).pre) :
    (dact C dj ⟨fr, hp⟩).pre ∧ (dact C di ⟨fr, (dact C dj ⟨fr, hp⟩).hp⟩).pre ∧ (dact C dj ⟨fr, hp⟩).val = (dact C dj ⟨fr, (dact C di ⟨fr, hp⟩).hp⟩).val ∧
      (dact C di ⟨fr, (dact C dj ⟨fr, hp⟩).hp⟩).val = (dact C di ⟨fr, hp⟩).val ∧ (dact C di ⟨fr, (dact C dj ⟨fr, hp⟩).hp⟩).hp = (dact C dj ⟨fr, (dact C di ⟨fr, hp⟩).hp⟩).hp := by
  have sp : ∀ (k : Nat) (z : List DV) (hp : List DObj), (dvalX C (.aa k z) ⟨fr, hp⟩).pre → ∃ o, hp[k]? = some o ∧ (o.k = .dead ∧ o.es = []) := fun k z hp hx => by
    simp only [dvalX, dval] at hx
    cases hk : hp[k]? with
    | none => rw [hk] at hx; exact hx.elim
    | some o => rw [hk] at hx; exact ⟨o, rfl, hx⟩
  have ev : ∀ (k : Nat) (z : List DV) (hp : List DObj) (o : DObj), hp[k]? = some o → dvalX C (.aa k z) ⟨fr, hp⟩ = ⟨o.k = .dead ∧ o.es = [], .ptr k 1 0 0, hp.set k ⟨.loc, z.length, [z]⟩⟩ := fun k z hp o hk => by
    simp only [dvalX, dval, hk]
  rcases act_guard C di fr p1 with k | k <;> rcases act_guard C dj fr p2 with q | q
  · simp only [k, q, h1, h2] at p1 p2 ⊢
    obtain ⟨o, ho, hd⟩ := sp _ _ _ p1
    rw [ev _ _ _ _ ho] at p2 ⊢
    obtain ⟨o', ho', hd'⟩ := sp _ _ _ p2
    have ho2 : hp[h']? = some o' := by rw [List.getElem?_set_ne hne] at ho'; exact ho'
    rw [ev _ _ _ _ ho', ev _ _ _ _ ho2]
    have ho3 : (hp.set h' ⟨.loc, z'.length, [z']⟩)[h]? = some o := by rw [List.getElem?_set_ne (Ne.symm hne)]; exact ho
    rw [ev _ _ _ _ ho3]
    exact ⟨hd', hd, rfl, rfl, (List.set_comm _ _ hne.symm)⟩
  · simp only [k, q] at p1 p2 ⊢
    exact ⟨trivial, p1, trivial, trivial, trivial⟩
  · simp only [k, q] at p1 p2 ⊢
    exact ⟨p2, trivial, trivial, trivial, trivial⟩
  · simp only [k, q]; exact ⟨trivial, trivial, trivial, trivial, trivial⟩

/-- Slots that are to hold unlike handles do. -/
def SepJ (seps : List (Nat × Nat)) (s : DS) : Prop := ∀ p ∈ seps, ∀ k, hdl (get p.1 s.fr) = some k → hdl (get p.2 s.fr) ≠ some k

theorem sepJ_of : ∀ {seps : List (Nat × Nat)} {s : DS}, sepsD seps s.fr → SepJ seps s
  | [], _, _ => fun p hp => by simp at hp
  | (a, b) :: r, s, h => fun p hp => by
    rcases List.mem_cons.1 hp with rfl | hp
    · exact sepB_hdl h.1
    · exact sepJ_of h.2 p hp

/-- The slot whose handle an operation hands on. -/
def fromD : DOp → Option Nat
  | .faddr _ (.t n) | .nilck (.t n) | .mv (.t n) => some n
  | .iaddr _ (.t n) _ | .iaddrA _ _ (.t n) _ => some n
  | _ => none

theorem from_hdl (C : Orc) (d : DOp) {n : Nat} (hv : fromD d = some n) (s : DS) (h : (dvalX C d s).pre) {k : Nat} (e : hdl (dvalX C d s).val = some k) : hdl (get n s.fr) = some k := by
  cases d <;> simp only [fromD, reduceCtorEq] at hv
  case mv x => cases x <;> simp only [Option.some.injEq, reduceCtorEq] at hv; subst hv; exact e
  case faddr o x =>
    cases x <;> simp only [Option.some.injEq, reduceCtorEq] at hv; subst hv
    simp only [dvalX, dval, DA.ev] at e h
    revert e h
    cases get _ s.fr <;> simp [hdl, no]
  case nilck x =>
    cases x <;> simp only [Option.some.injEq, reduceCtorEq] at hv; subst hv
    simp only [dvalX, dval, DA.ev] at e h
    revert e h
    cases get _ s.fr <;> simp [hdl, no]
  case iaddrA m z x i =>
    cases x <;> simp only [Option.some.injEq, reduceCtorEq] at hv; subst hv
    simp only [dvalX, dval] at e h
    rw [show (DA.t _).ev s.fr = get _ s.fr from rfl] at e h
    revert e h
    cases get _ s.fr <;> cases i.ev s.fr <;> simp [hdl, no]
  case iaddr z x i =>
    cases x <;> simp only [Option.some.injEq, reduceCtorEq] at hv; subst hv
    simp only [dvalX, dval] at e h
    rw [show (DA.t _).ev s.fr = get _ s.fr from rfl] at e h
    revert e h
    cases get _ s.fr <;> cases i.ev s.fr <;> simp only [hdl, no, reduceCtorEq, false_implies, implies_true, Option.some.injEq, imp_self] <;> split <;> simp

def keepJ (seps : List (Nat × Nat)) (d : DOper) : Bool :=
  match d.dst with
  | none => true
  | some t => seps.all fun p => (p.1 != t && p.2 != t) || (match fromD d.op with
    | some n => (p.1 != t || (p.2 != t && seps.contains (n, p.2))) && (p.2 != t || seps.contains (p.1, n))
    | none => false)

theorem keepJ_spec {C : Orc} {seps : List (Nat × Nat)} {d : DOper} (hk : keepJ seps d = true) {s : DS} (hJ : SepJ seps s) (h : (dact C d s).pre) : SepJ seps (s.put d.dst (dact C d s)) := by
  intro p hp k
  cases hd : d.dst with
  | none => exact hJ p hp k
  | some t =>
    simp only [keepJ, hd, List.all_eq_true] at hk
    have h1 := hk p hp
    simp only [DS.put, get_cons]
    have hold : ∀ {n k}, fromD d.op = some n → hdl (dact C d s).val = some k → hdl (get n s.fr) = some k := fun {n k} hn e => by
      obtain ⟨fr, hh⟩ := s
      rcases act_guard C d fr h with a | a
      · rw [a] at e h; exact from_hdl C d.op hn _ h e
      · rw [a] at e; simp [hdl] at e
    by_cases e1 : p.1 = t
    · rw [if_pos e1]
      cases hf : fromD d.op with
      | none => simp [hf, e1] at h1
      | some n =>
        simp [hf, e1] at h1
        obtain ⟨⟨h2, h3⟩, h4⟩ := h1
        rw [if_neg h2]
        intro e
        exact hJ (n, p.2) h3 k (hold hf e)
    · rw [if_neg e1]
      by_cases e2 : p.2 = t
      · rw [if_pos e2]
        cases hf : fromD d.op with
        | none => simp [hf, e2] at h1
        | some n =>
          simp [hf, e1, e2] at h1
          intro e e'
          exact hJ (p.1, n) h1 k e (hold hf e')
      · rw [if_neg e2]
        exact hJ p hp k

def commS (seps : List (Nat × Nat)) (x y : DOper) : Bool :=
  apartD x y && (match viaD x.op, y.op with
    | some n, .to b _ => seps.contains (n, b)
    | _, _ => (match x.op, y.op with
      | .rk lo _, .tk _ lo' _ => decide (lo ≤ lo')
      | .aa h _, .aa h' _ => h != h'
      | .rd d, e => (stillD (.rd d) && stillD e) || (d.kind == 2 && e.kindX == 4)
      | .to _ (.cl _ _ _ _), e => e.kindX == 4
      | .rz z _, .to b (.cl b' z' _ _) => b == b' && z == z'
      | .clo _ _ _ _ _, e => e.kindX == 4
      | .rz z _, .clo _ _ z' _ _ => z == z'
      | .rz z d, e => (stillD (.rz z d) && stillD e) || e.kindX == 4
      | _, _ => stillD x.op && stillD y.op))

/-- A call that leaves the heap tells the same where more is behind it. -/
theorem actRd (C : Orc) (d : DOper) {e : DOp} (hd : d.op = .rd e) (hk : e.kind = 2) (fr : List (Nat × DV)) (hp t : List DObj) (h : (dact C d ⟨fr, hp⟩).pre) :
    (dact C d ⟨fr, hp ++ t⟩).pre ∧ (dact C d ⟨fr, hp ++ t⟩).val = (dact C d ⟨fr, hp⟩).val ∧ (dact C d ⟨fr, hp ++ t⟩).hp = hp ++ t := by
  rcases act_guard C d fr h with k | k
  · rw [k, hd] at h; rw [k, k, hd]
    simp only [dvalX] at h ⊢
    obtain ⟨u1, u2, u3⟩ := kind2e C e fr hp t hk h.1
    exact ⟨⟨u1, by rw [u3, h.2]⟩, u2, trivial⟩
  · rw [k, k]; exact ⟨trivial, rfl, rfl⟩

/-- A call that sees one object alone tells the same where more is behind. -/
theorem actCl (C : Orc) (d : DOper) {b b' z : Nat} {f : FuncId} {xs : List DA} (hd : d.op = .to b (.cl b' z f xs)) (fr : List (Nat × DV)) (hp t : List DObj) (h : (dact C d ⟨fr, hp⟩).pre) :
    (dact C d ⟨fr, hp⟩).hp.length = hp.length ∧ (dact C d ⟨fr, hp ++ t⟩).pre ∧ (dact C d ⟨fr, hp ++ t⟩).val = (dact C d ⟨fr, hp⟩).val ∧ (dact C d ⟨fr, hp ++ t⟩).hp = (dact C d ⟨fr, hp⟩).hp ++ t := by
  rcases act_guard C d fr h with k | k
  · rw [k, hd] at h; rw [k, k, hd]
    simp only [dvalX] at h ⊢
    obtain ⟨h1, h2⟩ := h
    simp only [dval] at h1 h2 ⊢
    cases e1 : hdl (get b' fr) with
    | none => simp [e1, no] at h1
    | some n =>
      simp only [e1] at h1 h2 ⊢
      cases e2 : hp[n]? with
      | none => simp [e2, no] at h1
      | some o =>
        have hlt := (List.getElem?_eq_some_iff.1 e2).1
        have e3 : (hp ++ t)[n]? = some o := by rw [List.getElem?_append_left hlt, e2]
        simp only [e2, e3] at h1 h2 ⊢
        cases e4 : (C.h f (xs.map (·.ev fr)) (List.replicate n ⟨.dead, 0, []⟩ ++ [o])).hp[n]? with
        | none => simp [e4, no] at h1
        | some o' =>
          simp only [e4] at h1 h2 ⊢
          rw [List.set_append_left _ _ hlt]
          refine ⟨by simp, ⟨h1, fun i hi hne => ?_⟩, trivial, rfl⟩
          rcases Nat.lt_or_ge i hp.length with hi' | hi'
          · rw [List.getElem?_append_left (by simpa using hi'), List.getElem?_append_left hi']
            exact h2 i hi' hne
          · rw [List.getElem?_append_right (by simpa using hi'), List.getElem?_append_right hi']
            simp
  · rw [k, k]; exact ⟨rfl, trivial, rfl, rfl⟩

/-- The same of one that makes an own slice at a place of its own. -/
theorem actClo (C : Orc) (d : DOper) {h0 b z : Nat} {f : FuncId} {xs : List DA} (hd : d.op = .clo h0 b z f xs) (fr : List (Nat × DV)) (hp t : List DObj) (h : (dact C d ⟨fr, hp⟩).pre) :
    (dact C d ⟨fr, hp⟩).hp.length = hp.length ∧ (dact C d ⟨fr, hp ++ t⟩).pre ∧ (dact C d ⟨fr, hp ++ t⟩).val = (dact C d ⟨fr, hp⟩).val ∧ (dact C d ⟨fr, hp ++ t⟩).hp = (dact C d ⟨fr, hp⟩).hp ++ t ∧
      ∀ (i : Nat) (o : DObj), hp[i]? = some o → o.k ≠ .dead → o.z ≠ z → (dact C d ⟨fr, hp⟩).hp[i]? = some o := by
  rcases act_guard C d fr h with k | k
  · rw [k, hd] at h; rw [k, k, hd]
    simp only [dvalX] at h ⊢
    simp only [dval] at h ⊢
    cases e1 : hdl (get b fr) with
    | none => simp [e1, no] at h
    | some n =>
      simp only [e1] at h ⊢
      cases e2 : hp[n]? with
      | none => simp [e2, no] at h
      | some o =>
      cases e3 : hp[h0]? with
      | none => simp [e2, e3, no] at h
      | some od =>
        have hlt := (List.getElem?_eq_some_iff.1 e2).1
        have hlt2 := (List.getElem?_eq_some_iff.1 e3).1
        have f2 : (hp ++ t)[n]? = some o := by rw [List.getElem?_append_left hlt, e2]
        have f3 : (hp ++ t)[h0]? = some od := by rw [List.getElem?_append_left hlt2, e3]
        simp only [e2, e3, f2, f3] at h ⊢
        cases e5 : (C.h f (xs.map (·.ev fr)) (List.replicate n ⟨.dead, 0, []⟩ ++ [o])).val <;> simp only [e5, no] at h ⊢ <;> try exact h.elim
        rename_i m L off len
        cases e4 : (C.h f (xs.map (·.ev fr)) (List.replicate n ⟨.dead, 0, []⟩ ++ [o])).hp[n]? with
        | none => simp [e4] at h
        | some o' =>
        cases e6 : (C.h f (xs.map (·.ev fr)) (List.replicate n ⟨.dead, 0, []⟩ ++ [o])).hp[m]? with
        | none => simp [e4, e6] at h
        | some oj =>
          simp only [e4, e6] at h ⊢
          have hz := h.1
          have hdd := h.2.2.2.2.2.2.2.2.1
          have stay : ∀ (i : Nat) (o2 : DObj), hp[i]? = some o2 → o2.k ≠ .dead → o2.z ≠ z → i ≠ n ∧ i ≠ h0 := fun i o2 hi hk2 hz2 =>
            ⟨fun e => by subst e; rw [e2] at hi; injection hi with hi; subst hi; exact hz2 hz, fun e => by subst e; rw [e3] at hi; injection hi with hi; subst hi; exact hk2 hdd⟩
          by_cases hL : L = 0
          · simp only [if_pos hL]
            rw [List.set_append_left _ _ hlt]
            refine ⟨by simp, h, trivial, rfl, fun i o2 hi hk2 hz2 => ?_⟩
            rw [List.getElem?_set_ne (Ne.symm (stay i o2 hi hk2 hz2).1), hi]
          · simp only [if_neg hL]
            rw [List.set_append_left _ _ hlt, List.set_append_left _ _ (by simpa using hlt2)]
            refine ⟨by simp, h, trivial, rfl, fun i o2 hi hk2 hz2 => ?_⟩
            rw [List.getElem?_set_ne (Ne.symm (stay i o2 hi hk2 hz2).2), List.getElem?_set_ne (Ne.symm (stay i o2 hi hk2 hz2).1), hi]
  · rw [k, k]; exact ⟨rfl, trivial, rfl, rfl, fun i o hi _ _ => hi⟩

def commX (seps : List (Nat × Nat)) (x y : DOper) : Bool := commD x y || commS seps x y

theorem act10 (C : Orc) (d : DOper) (fr : List (Nat × DV)) (hp : List DObj) (hk : d.op.kindX = 10) (h : (dact C d ⟨fr, hp⟩).pre) : ∃ t, (dact C d ⟨fr, hp⟩).hp = hp ++ t := by
  rcases act_guard C d fr h with e | e
  · rw [e] at h; rw [e]
    cases hd : d.op <;> rw [hd] at hk h <;> first | (cases hk; done) | exact h.2 | skip
    all_goals exact absurd hk (by simp [DOp.kindX, DOp.kind])
  · rw [e]; exact ⟨[], (List.append_nil _).symm⟩

theorem act1e (C : Orc) (d : DOper) (fr : List (Nat × DV)) (hp t : List DObj) (hk : d.op.kindX = 1) (h : (dact C d ⟨fr, hp⟩).pre) :
    (dact C d ⟨fr, hp ++ t⟩).pre ∧ (dact C d ⟨fr, hp ++ t⟩).val = (dact C d ⟨fr, hp⟩).val ∧ (dact C d ⟨fr, hp ++ t⟩).hp = hp ++ t := by
  rcases act_guard C d fr h with e | e
  · have hk0 : d.op.kindX ≠ 0 ∧ d.op.kindX ≠ 7 ∧ d.op.kindX ≠ 8 ∧ d.op.kindX ≠ 9 ∧ d.op.kindX ≠ 10 := by omega
    simp only [dvalX_eq hk0] at e
    rw [e] at h; rw [e, e]; exact kind1e C d.op fr hp t ((kindX_eq hk0).symm.trans hk) h
  · rw [e, e]; exact ⟨trivial, rfl, rfl⟩

theorem act45 (C : Orc) (d : DOper) (fr : List (Nat × DV)) (hp : List DObj) (hk : d.op.kindX = 4 ∨ d.op.kindX = 5) (h : (dact C d ⟨fr, hp⟩).pre) : Ex hp (dact C d ⟨fr, hp⟩).hp := by
  rcases act_guard C d fr h with e | e
  · have hk0 : d.op.kindX ≠ 0 ∧ d.op.kindX ≠ 7 ∧ d.op.kindX ≠ 8 ∧ d.op.kindX ≠ 9 ∧ d.op.kindX ≠ 10 := by omega
    simp only [dvalX_eq hk0] at e
    rw [e] at h; rw [e]; exact kind45 C d.op fr hp (by rw [← kindX_eq hk0]; exact hk) h
  · rw [e]; exact ⟨hp, [], .refl _, (List.append_nil _).symm⟩

theorem act2e (C : Orc) (d : DOper) (fr : List (Nat × DV)) (hp t : List DObj) (hk : d.op.kindX = 2) (h : (dact C d ⟨fr, hp⟩).pre) :
    (dact C d ⟨fr, hp ++ t⟩).pre ∧ (dact C d ⟨fr, hp ++ t⟩).val = (dact C d ⟨fr, hp⟩).val ∧ (dact C d ⟨fr, hp ++ t⟩).hp = (dact C d ⟨fr, hp⟩).hp ++ t := by
  rcases act_guard C d fr h with e | e
  · have hk0 : d.op.kindX ≠ 0 ∧ d.op.kindX ≠ 7 ∧ d.op.kindX ≠ 8 ∧ d.op.kindX ≠ 9 ∧ d.op.kindX ≠ 10 := by omega
    simp only [dvalX_eq hk0] at e
    rw [e] at h; rw [e, e]; exact kind2e C d.op fr hp t ((kindX_eq hk0).symm.trans hk) h
  · rw [e, e]; exact ⟨trivial, rfl, rfl⟩

theorem act4e (C : Orc) (d : DOper) (fr : List (Nat × DV)) (hp hp2 : List DObj) (hl : hp2.length = hp.length) (hk : d.op.kindX = 4) (h : (dact C d ⟨fr, hp⟩).pre) :
    (dact C d ⟨fr, hp2⟩).pre ∧ (dact C d ⟨fr, hp2⟩).val = (dact C d ⟨fr, hp⟩).val ∧ ∃ t, (dact C d ⟨fr, hp⟩).hp = hp ++ t ∧ (dact C d ⟨fr, hp2⟩).hp = hp2 ++ t := by
  rcases act_guard C d fr h with e | e
  · have hk0 : d.op.kindX ≠ 0 ∧ d.op.kindX ≠ 7 ∧ d.op.kindX ≠ 8 ∧ d.op.kindX ≠ 9 ∧ d.op.kindX ≠ 10 := by omega
    simp only [dvalX_eq hk0] at e
    rw [e] at h; rw [e, e]; exact kind4e C d.op fr hp hp2 hl ((kindX_eq hk0).symm.trans hk) h
  · rw [e, e]; exact ⟨trivial, rfl, [], (List.append_nil _).symm, (List.append_nil _).symm⟩

def Eqv (s s' : DS) : Prop := s.hp = s'.hp ∧ ∀ n, get n s.fr = get n s'.fr
theorem Eqv.refl (s : DS) : Eqv s s := ⟨rfl, fun _ => rfl⟩
theorem Eqv.trans {a b c : DS} (h : Eqv a b) (k : Eqv b c) : Eqv a c := ⟨h.1.trans k.1, fun n => (h.2 n).trans (k.2 n)⟩

def Cl (K : DS → Prop) (s : DS) : Prop := ∃ s0, Eqv s0 s ∧ K s0
theorem Cl.of {K : DS → Prop} {s : DS} (h : K s) : Cl K s := ⟨s, .refl s, h⟩
theorem Cl.eqv {K : DS → Prop} {s s' : DS} (h : Cl K s) (e : Eqv s s') : Cl K s' := let ⟨s0, h0, hk⟩ := h; ⟨s0, h0.trans e, hk⟩

theorem Eqv.put {s s' : DS} (h : Eqv s s') (dst : Option Nat) (r : Res) : Eqv (s.put dst r) (s'.put dst r) := by
  cases dst with
  | none => exact ⟨rfl, h.2⟩
  | some t => exact ⟨rfl, fun n => by simp only [DS.put, get_cons]; split <;> first | rfl | exact h.2 n⟩

theorem dact_eqv (C : Orc) (d : DOper) {s s' : DS} (h : Eqv s s') : dact C d s = dact C d s' := by
  obtain ⟨fr, hp⟩ := s
  obtain ⟨fr', hp'⟩ := s'
  obtain ⟨h1, h2⟩ := h
  dsimp only at h1; subst h1
  exact dact_congr C d _ fun n _ => h2 n

theorem dstep_eqv {C : Orc} {d : DOper} {s s' : DS} {K : DS → Prop} (e : Eqv s s') (hK : ∀ s s', Eqv s s' → K s → K s') (h : dstep C d s K) : dstep C d s' K := by
  rw [dstep_act] at h ⊢
  rw [← dact_eqv C d e]
  exact ⟨h.1, hK _ _ (e.put _ _) h.2⟩

theorem dstep_mono {C : Orc} {d : DOper} {s : DS} {K K' : DS → Prop} (hK : ∀ s, K s → K' s) (h : dstep C d s K) : dstep C d s K' := by
  rw [dstep_act] at h ⊢
  exact ⟨h.1, hK _ h.2⟩

theorem get_put (s : DS) (dst : Option Nat) (r : Res) (n : Nat) (h : ∀ t, dst = some t → n ≠ t) : get n (s.put dst r).fr = get n s.fr := by
  cases dst with
  | none => rfl
  | some t => simp only [DS.put, get_cons]; rw [if_neg (h t rfl)]

theorem put_hp (s : DS) (dst : Option Nat) (r : Res) : (s.put dst r).hp = r.hp := by cases dst <;> rfl

theorem dstep_swap {C : Orc} {seps : List (Nat × Nat)} {di dj : DOper} (hc : commX seps di dj = true) {s : DS} (hJ : SepJ seps s) {X : DS → Prop} (h : dstep C di s (fun s1 => dstep C dj s1 X)) : dstep C dj s (fun s1 => dstep C di s1 (Cl X)) := by
  have hap : apartD di dj = true := by
    simp only [commX, commD, commS, Bool.or_eq_true, Bool.and_eq_true] at hc
    exact hc.elim (·.1) (·.1)
  have hc2 : kindsD di.op.kindX dj.op.kindX = true ∨ (∃ n b e, viaD di.op = some n ∧ dj.op = .to b e ∧ (n, b) ∈ seps) ∨ (∃ lo e b lo' e', di.op = .rk lo e ∧ dj.op = .tk b lo' e' ∧ lo ≤ lo') ∨ (∃ h z h' z', di.op = .aa h z ∧ dj.op = .aa h' z' ∧ h ≠ h') ∨ (stillD di.op = true ∧ stillD dj.op = true) ∨ (∃ d, di.op = .rd d ∧ d.kind = 2 ∧ dj.op.kindX = 4) ∨ (∃ b b' z f xs, di.op = .to b (.cl b' z f xs) ∧ dj.op.kindX = 4) ∨ (∃ z e b f xs, di.op = .rz z e ∧ dj.op = .to b (.cl b z f xs)) ∨ (∃ z e, di.op = .rz z e ∧ dj.op.kindX = 4) ∨ (∃ h b z f xs, di.op = .clo h b z f xs ∧ dj.op.kindX = 4) ∨ (∃ z e h b f xs, di.op = .rz z e ∧ dj.op = .clo h b z f xs) := by
    simp only [commX, commD, commS, Bool.or_eq_true, Bool.and_eq_true] at hc
    refine hc.imp (·.2) fun h => ?_
    have h2 := h.2
    split at h2
    · rename_i n b e e1 e2
      exact .inl ⟨n, b, e, e1, e2, by simpa using h2⟩
    · split at h2
      · rename_i lo e b lo' e' e1 e2
        exact .inr (.inl ⟨lo, e, b, lo', e', e1, e2, by simpa using h2⟩)
      · rename_i h z h' z' e1 e2
        exact .inr (.inr (.inl ⟨h, z, h', z', e1, e2, by simpa using h2⟩))
      · rename_i d e1
        simp only [Bool.or_eq_true, Bool.and_eq_true, beq_iff_eq] at h2
        rcases h2 with h2 | h2
        · exact .inr (.inr (.inr (.inl ⟨e1 ▸ h2.1, h2.2⟩)))
        · exact .inr (.inr (.inr (.inr (.inl ⟨d, e1, h2.1, h2.2⟩))))
      · rename_i b b' z f xs e1
        exact .inr (.inr (.inr (.inr (.inr (.inl ⟨b, b', z, f, xs, e1, by simpa using h2⟩)))))
      · rename_i z e b b' z' f xs e1 e2
        simp only [Bool.and_eq_true, beq_iff_eq] at h2
        obtain ⟨rfl, rfl⟩ := h2
        exact .inr (.inr (.inr (.inr (.inr (.inr (.inl ⟨z, e, b, f, xs, e1, e2⟩))))))
      · rename_i h0 b z f xs e1
        exact .inr (.inr (.inr (.inr (.inr (.inr (.inr (.inr (.inl ⟨h0, b, z, f, xs, e1, by simpa using h2⟩))))))))
      · rename_i z e h0 b z' f xs e1 e2
        simp only [beq_iff_eq] at h2
        subst h2
        exact .inr (.inr (.inr (.inr (.inr (.inr (.inr (.inr (.inr ⟨z, e, h0, b, f, xs, e1, e2⟩))))))))
      · rename_i z e e1 _ _
        simp only [Bool.or_eq_true, Bool.and_eq_true, beq_iff_eq] at h2
        rcases h2 with h2 | h2
        · exact .inr (.inr (.inr (.inl ⟨e1 ▸ h2.1, h2.2⟩)))
        · exact .inr (.inr (.inr (.inr (.inr (.inr (.inr (.inl ⟨z, e, e1, h2⟩)))))))
      · exact .inr (.inr (.inr (.inl (by simpa using h2))))
  have a1 : ∀ t, di.dst = some t → t ∉ dj.looks ∧ dj.dst ≠ some t := fun t ht => by
    simp only [apartD, ht, Bool.and_eq_true, Bool.not_eq_true', List.contains_eq_mem, decide_eq_false_iff_not, bne_iff_ne] at hap
    exact hap.1
  have a2 : ∀ t, dj.dst = some t → t ∉ di.looks := fun t ht => by
    simp only [apartD, Bool.and_eq_true] at hap
    have := hap.2
    rw [ht] at this
    simpa using this
  obtain ⟨fr, hp⟩ := s
  rw [dstep_act, dstep_act] at h
  obtain ⟨p1, p2, hx⟩ := h
  have e1 : dact C dj (DS.put ⟨fr, hp⟩ di.dst (dact C di ⟨fr, hp⟩)) = dact C dj ⟨fr, (dact C di ⟨fr, hp⟩).hp⟩ := by
    have := dact_congr C dj (fr := (DS.put ⟨fr, hp⟩ di.dst (dact C di ⟨fr, hp⟩)).fr) (fr' := fr) (dact C di ⟨fr, hp⟩).hp (fun n hn => get_put _ _ _ _ fun t ht e => (a1 t ht).1 (e ▸ hn))
    rw [← this]
    cases di.dst <;> rfl
  rw [e1] at p2 hx
  have key : (dact C dj ⟨fr, hp⟩).pre ∧ (dact C di ⟨fr, (dact C dj ⟨fr, hp⟩).hp⟩).pre ∧ (dact C dj ⟨fr, hp⟩).val = (dact C dj ⟨fr, (dact C di ⟨fr, hp⟩).hp⟩).val ∧
      (dact C di ⟨fr, (dact C dj ⟨fr, hp⟩).hp⟩).val = (dact C di ⟨fr, hp⟩).val ∧ (dact C di ⟨fr, (dact C dj ⟨fr, hp⟩).hp⟩).hp = (dact C dj ⟨fr, (dact C di ⟨fr, hp⟩).hp⟩).hp := by
    rcases hc2 with hk | ⟨n, b, e, hv, hd, hm⟩ | ⟨lo, e, b, lo', e', h1, h2, hlo⟩ | ⟨h, z, h', z', h1, h2, hne⟩ | ⟨h1, h2⟩ | ⟨e, h1, h2, h3⟩ | ⟨b, b', z, f, xs, h1, h3⟩ | ⟨z, e, b, f, xs, h1, hd⟩ | ⟨z, e, h1, h3⟩ | ⟨h0, b, z, f, xs, h1, h3⟩ | ⟨z, e, h0, b, f, xs, h1, hd⟩
    rotate_left
    rotate_left
    · have hp1 : (dact C di ⟨fr, hp⟩).hp = hp := actR C di h1 fr hp p1
      rw [hp1] at p2 ⊢
      obtain ⟨u1, u2, u3⟩ := actRT C di dj h1 h2 hlo fr hp p1 p2
      exact ⟨p2, u1, rfl, u2, u3⟩
    · exact actAA C di dj h1 h2 hne fr hp p1 p2
    · have hp1 := still_hp C di h1 fr hp p1
      rw [hp1] at p2 ⊢
      have hp2 := still_hp C dj h2 fr hp p2
      rw [hp2]
      exact ⟨p2, p1, rfl, rfl, hp1⟩
    · have hp1 : (dact C di ⟨fr, hp⟩).hp = hp := act7 C di fr hp (by rw [h1]; rfl) p1
      rw [hp1] at p2 ⊢
      obtain ⟨_, _, t, _, r4⟩ := act4e C dj fr hp hp rfl h3 p2
      obtain ⟨u1, u2, u3⟩ := actRd C di h1 h2 fr hp t p1
      rw [r4]
      exact ⟨p2, u1, rfl, u2, u3⟩
    · obtain ⟨hl, _⟩ := actCl C di h1 fr hp [] p1
      obtain ⟨r1, r2, t, r3, r4⟩ := act4e C dj fr (dact C di ⟨fr, hp⟩).hp hp hl.symm h3 p2
      obtain ⟨_, u1, u2, u3⟩ := actCl C di h1 fr hp t p1
      rw [r4]
      exact ⟨r1, u1, r2, u2, u3.trans r3.symm⟩
    · have hp1 : (dact C di ⟨fr, hp⟩).hp = hp := actRz C di h1 fr hp p1
      rw [hp1] at p2 ⊢
      have ho : ∀ (i : Nat) (o : DObj), hp[i]? = some o → o.k ≠ .dead → o.z ≠ z → (dact C dj ⟨fr, hp⟩).hp[i]? = some o := by
        intro i o hi _ hz
        rcases act_guard C dj fr p2 with k | k
        · rw [k, hd] at p2; rw [k, hd]
          simp only [dvalX] at p2 ⊢
          have hl := (List.getElem?_eq_some_iff.1 hi).1
          rw [p2.2 i hl fun e2 => ?_, hi]
          have p3 := p2.1
          simp only [dval, e2, hi] at p3
          split at p3
          · exact hz p3.1
          · exact p3
        · rw [k]; exact hi
      obtain ⟨u1, u2, u3⟩ := actRzS C di h1 fr ho p1
      exact ⟨p2, u1, rfl, u2, u3⟩
    · have hp1 : (dact C di ⟨fr, hp⟩).hp = hp := actRz C di h1 fr hp p1
      rw [hp1] at p2 ⊢
      obtain ⟨_, _, t, _, r4⟩ := act4e C dj fr hp hp rfl h3 p2
      have ho : ∀ (i : Nat) (o : DObj), hp[i]? = some o → o.k ≠ .dead → o.z ≠ z → (hp ++ t)[i]? = some o := fun i o hi _ _ => by
        rw [List.getElem?_append_left (List.getElem?_eq_some_iff.1 hi).1]; exact hi
      obtain ⟨u1, u2, u3⟩ := actRzS C di h1 fr ho p1
      rw [r4]
      exact ⟨p2, u1, rfl, u2, u3⟩
    · obtain ⟨hl, _⟩ := actClo C di h1 fr hp [] p1
      obtain ⟨r1, r2, t, r3, r4⟩ := act4e C dj fr (dact C di ⟨fr, hp⟩).hp hp hl.symm h3 p2
      obtain ⟨_, u1, u2, u3, _⟩ := actClo C di h1 fr hp t p1
      rw [r4]
      exact ⟨r1, u1, r2, u2, u3.trans r3.symm⟩
    · have hp1 : (dact C di ⟨fr, hp⟩).hp = hp := actRz C di h1 fr hp p1
      rw [hp1] at p2 ⊢
      obtain ⟨_, _, _, _, ho⟩ := actClo C dj hd fr hp [] p2
      obtain ⟨u1, u2, u3⟩ := actRzS C di h1 fr ho p1
      exact ⟨p2, u1, rfl, u2, u3⟩
    rotate_left
    · have hp1 : (dact C di ⟨fr, hp⟩).hp = hp := ((act1 C di fr hp hp (.refl _) (via_kind hv)).2 p1).2.1
      rw [hp1] at p2 ⊢
      have ho := act8 C dj hd fr hp p2
      obtain ⟨u1, u2, u3⟩ := actS C di hv fr (hp := hp) (hp' := (dact C dj ⟨fr, hp⟩).hp) (fun h' e' hl => ho h' hl (hJ _ hm h' e')) p1
      exact ⟨p2, u1, rfl, u2, u3⟩
    simp only [kindsD, Bool.or_eq_true, Bool.and_eq_true, beq_iff_eq] at hk
    rcases hk with (((((((hk | hk) | ⟨hi, hj⟩) | ⟨hi, hj⟩) | ⟨hi, hj⟩) | ⟨hi, hj⟩) | ⟨hi, hj⟩) | ⟨hi, hj⟩) | ⟨hi, hj⟩
    · obtain ⟨q1, q2⟩ := act0 C di fr hp hk p1
      rw [q1] at p2 ⊢
      obtain ⟨r1, r2, r3⟩ := q2 (dact C dj ⟨fr, hp⟩).hp
      exact ⟨p2, r1, rfl, r2, r3⟩
    · obtain ⟨q1, q2⟩ := act0 C dj fr _ hk p2
      obtain ⟨r1, r2, r3⟩ := q2 hp
      rw [r3]
      exact ⟨r1, p1, r2, rfl, q1.symm⟩
    · obtain ⟨q1, q2⟩ := act1 C di fr hp hp (.refl _) hi
      obtain ⟨_, q3, _⟩ := q2 p1
      rw [q3] at p2 ⊢
      obtain ⟨s1, s2⟩ := act1 C dj fr hp hp (.refl _) hj
      obtain ⟨_, s3, _⟩ := s2 p2
      rw [s3]
      exact ⟨p2, p1, rfl, rfl, q3⟩
    · obtain ⟨_, q3, _⟩ := (act1 C di fr hp hp (.refl _) hi).2 p1
      rw [q3] at p2 ⊢
      have hfz := act2 C dj fr hp hj p2
      obtain ⟨s1, s2⟩ := act1 C di fr hp _ hfz hi
      obtain ⟨t1, _, t3⟩ := s2 p1
      exact ⟨p2, s1.2 p1, rfl, t1, t3⟩
    · have hfz := act2 C di fr hp hi p1
      obtain ⟨s1, s2⟩ := act1 C dj fr hp _ hfz hj
      have hpj := s1.1 p2
      obtain ⟨t1, t2, t3⟩ := s2 hpj
      rw [t2]
      exact ⟨hpj, p1, t1.symm, rfl, t3.symm⟩
    · obtain ⟨_, q3, _⟩ := (act1 C di fr hp hp (.refl _) hi).2 p1
      rw [q3] at p2 ⊢
      obtain ⟨hp1, t, hfz, het⟩ := act45 C dj fr hp hj p2
      obtain ⟨s1, s2⟩ := act1 C di fr hp _ hfz hi
      obtain ⟨t1, _, t3⟩ := s2 p1
      obtain ⟨u1, u2, u3⟩ := act1e C di fr hp1 t hi (s1.2 p1)
      rw [het]
      exact ⟨p2, u1, rfl, u2.trans t1, u3⟩
    · have hfz := act2 C di fr hp hi p1
      obtain ⟨r1, r2, t, r3, r4⟩ := act4e C dj fr _ hp hfz.1 hj p2
      obtain ⟨u1, u2, u3⟩ := act2e C di fr hp t hi p1
      rw [r4, r3]
      exact ⟨r1, u1, r2, u2, u3⟩
    · have q := act7 C di fr hp hi p1
      rw [q] at p2 ⊢
      have q2 : (dact C dj ⟨fr, hp⟩).hp = hp := by
        rcases hj with hj | hj
        · exact act7 C dj fr hp hj p2
        · exact ((act1 C dj fr hp hp (.refl _) hj).2 p2).2.1
      rw [q2]
      exact ⟨p2, p1, rfl, rfl, q⟩
    · have q : (dact C di ⟨fr, hp⟩).hp = hp := ((act1 C di fr hp hp (.refl _) hi).2 p1).2.1
      rw [q] at p2 ⊢
      rcases hj with hj | hj
      · have q2 := act7 C dj fr hp hj p2
        rw [q2]
        exact ⟨p2, p1, rfl, rfl, q⟩
      · obtain ⟨t, q2⟩ := act10 C dj fr hp hj p2
        obtain ⟨u1, u2, u3⟩ := act1e C di fr hp t hi p1
        rw [q2]
        exact ⟨p2, u1, rfl, u2, u3⟩
  obtain ⟨k1, k2, k3, k4, k5⟩ := key
  have e2 : dact C di (DS.put ⟨fr, hp⟩ dj.dst (dact C dj ⟨fr, hp⟩)) = dact C di ⟨fr, (dact C dj ⟨fr, hp⟩).hp⟩ := by
    have := dact_congr C di (fr := (DS.put ⟨fr, hp⟩ dj.dst (dact C dj ⟨fr, hp⟩)).fr) (fr' := fr) (dact C dj ⟨fr, hp⟩).hp (fun n hn => get_put _ _ _ _ fun t ht e => a2 t ht (e ▸ hn))
    rw [← this]
    cases dj.dst <;> rfl
  rw [dstep_act, dstep_act, e2]
  refine ⟨k1, k2, _, ⟨?_, fun n => ?_⟩, hx⟩
  · rw [put_hp, put_hp, k5]
  · by_cases h1 : ∃ t, di.dst = some t ∧ n = t
    · obtain ⟨t, ht, rfl⟩ := h1
      rw [get_put _ _ _ n (fun t' ht' e => (a1 n ht).2 (by rw [ht', ← e]))]
      simp only [ht, DS.put, get_cons, if_true, k4]
    · rw [get_put (DS.put ⟨fr, hp⟩ dj.dst _) _ _ _ (fun t ht e => h1 ⟨t, ht, e⟩)]
      by_cases h2 : ∃ t, dj.dst = some t ∧ n = t
      · obtain ⟨t, ht, rfl⟩ := h2
        simp only [ht, DS.put, get_cons, if_true, k3]
      · rw [get_put _ _ _ _ (fun t ht e => h2 ⟨t, ht, e⟩), get_put _ _ _ _ (fun t ht e => h2 ⟨t, ht, e⟩), get_put _ _ _ _ (fun t ht e => h1 ⟨t, ht, e⟩)]

/-- Whatever order is picked from here on. -/
def dAny (C : Orc) (md : Region.Mode) (ops : Array Oper) (look : Nat → Option DOper) (K : DS → Prop) : Nat → Array Bool → DS → Prop
  | 0, listed, s => Region.ready md ops listed = [] ∧ Cl K s
  | f + 1, listed, s => (Region.ready md ops listed = [] → Cl K s) ∧ ∀ i ∈ Region.ready md ops listed, ∃ d, look i = some d ∧ dstep C d s (fun s' => dAny C md ops look K f (listed.setIfInBounds i true) s')

section
variable {C : Orc} {md : Region.Mode} {ops : Array Oper} {look : Nat → Option DOper} {K : DS → Prop}

theorem dAny_eqv : ∀ {f : Nat} {listed : Array Bool} {s s' : DS}, Eqv s s' → dAny C md ops look K f listed s → dAny C md ops look K f listed s'
  | 0, _, _, _, e, h => ⟨h.1, h.2.eqv e⟩
  | f + 1, _, _, _, e, h => ⟨fun h0 => (h.1 h0).eqv e, fun i hi => by
    obtain ⟨d, hd, hs⟩ := h.2 i hi
    exact ⟨d, hd, dstep_eqv e (fun _ _ e' h' => dAny_eqv e' h') hs⟩⟩

theorem dAny_first {seps : List (Nat × Nat)} (hkeep : ∀ j dj, look j = some dj → keepJ seps dj = true) {i : Nat} {di : DOper} (hi : look i = some di) {D : List Nat} (hiD : i ∈ D) (hD : ∀ j ∈ D, j ≠ i → ∀ oj, ops[j]? = some oj → ∃ e ∈ oj.after, Region.binds md e = true ∧ e.on ∈ D) : ∀ (fuel : Nat) (listed : Array Bool) (s : DS),
    SepJ seps s → (∀ j ∈ D, listed.getD j true = false) →
    (∀ j dj, look j = some dj → j ∉ D → listed.getD j true = false → commX seps di dj = true) →
    i ∈ Region.ready md ops listed → dstep C di s (fun s1 => dAny C md ops look K fuel (listed.setIfInBounds i true) s1) → dAny C md ops look K (fuel + 1) listed s := by
  intro fuel
  induction fuel with
  | zero =>
    intro listed s _ _ _ hr H
    refine ⟨fun h => (by rw [h] at hr; cases hr), fun j hj => ?_⟩
    by_cases hji : j = i
    · subst hji; exact ⟨di, hi, H⟩
    · have := ready_mono hj hji
      rw [dstep_act] at H
      rw [H.2.1] at this
      cases this
  | succ fuel ih =>
    intro listed s hJ hun hfree hr H
    refine ⟨fun h => (by rw [h] at hr; cases hr), fun j hj => ?_⟩
    by_cases hji : j = i
    · subst hji; exact ⟨di, hi, H⟩
    · obtain ⟨hjun, oj, hoj, hall⟩ := mem_ready.1 hj
      have hjD : j ∉ D := fun hm => by
        obtain ⟨e, he, hb, heD⟩ := hD j hm hji oj hoj
        have h1 := hall e he hb
        have h0 := hun _ heD
        rcases Nat.lt_or_ge e.on listed.size with h' | h'
        · simp [h'] at h0 h1; rw [h0] at h1; cases h1
        · simp [Array.getElem?_eq_none h'] at h1
      have H' := H
      rw [dstep_act] at H'
      obtain ⟨dj, hdj, _⟩ := H'.2.2 j (ready_mono hj hji)
      have hcomm := hfree j dj hdj hjD hjun
      have H2 : dstep C di s (fun s1 => dstep C dj s1 (fun s2 => dAny C md ops look K fuel ((listed.setIfInBounds i true).setIfInBounds j true) s2)) := by
        refine dstep_mono (fun s1 h1 => ?_) H
        obtain ⟨d, hd, hs⟩ := h1.2 j (ready_mono hj hji)
        rw [hdj] at hd; injection hd with hd; subst hd
        exact hs
      have H3 := dstep_swap hcomm hJ H2
      rw [dstep_act] at H3
      refine ⟨dj, hdj, (dstep_act _ _ _ _).2 ⟨H3.1, ?_⟩⟩
      have hJ1 := keepJ_spec (C := C) (hkeep j dj hdj) hJ H3.1
      generalize s.put dj.dst (dact C dj s) = s1 at H3 hJ1 ⊢
      have h1 := H3.2
      refine ih (listed.setIfInBounds j true) s1 hJ1 (fun k hk => ?_) (fun k dk hdk hkD hkun => ?_) (ready_mono hr (Ne.symm hji)) (dstep_mono (fun s2 h2 => ?_) h1)
      · have hjk : j ≠ k := fun e => hjD (by rw [e]; exact hk)
        rw [getD_set_ne true hjk]; exact hun k hk
      · refine hfree k dk hdk hkD ?_
        by_cases hjk : j = k
        · subst hjk; exact hjun
        · rw [getD_set_ne true hjk] at hkun; exact hkun
      · rw [Array.setIfInBounds_comm _ _ hji]
        obtain ⟨s0, e0, h0⟩ := h2
        exact dAny_eqv e0 h0

/-- What cannot come ahead of i. -/
def depsD (md : Region.Mode) (ops : Array Oper) (i : Nat) : List Nat → List Nat → List Nat
  | [], D => D
  | j :: r, D => depsD md ops i r (match ops[j]? with
    | some oj => if oj.after.any (fun e => Region.binds md e && D.contains e.on) then j :: D else D
    | none => D)

theorem depsD_spec {i : Nat} : ∀ (l D : List Nat), i ∈ D → (∀ j ∈ D, j ≠ i → ∀ oj, ops[j]? = some oj → ∃ e ∈ oj.after, Region.binds md e = true ∧ e.on ∈ D) →
    i ∈ depsD md ops i l D ∧ ∀ j ∈ depsD md ops i l D, j ≠ i → ∀ oj, ops[j]? = some oj → ∃ e ∈ oj.after, Region.binds md e = true ∧ e.on ∈ depsD md ops i l D
  | [], D, h1, h2 => ⟨h1, h2⟩
  | j :: r, D, h1, h2 => by
    unfold depsD
    cases ho : ops[j]? with
    | none => exact depsD_spec r D h1 h2
    | some oj =>
      by_cases hc : oj.after.any (fun e => Region.binds md e && D.contains e.on) = true
      · simp only [if_pos hc]
        refine depsD_spec r (j :: D) (List.mem_cons_of_mem _ h1) fun k hk hki ok hok => ?_
        rcases List.mem_cons.1 hk with rfl | hk
        · rw [ho] at hok; injection hok with hok; subst hok
          obtain ⟨e, he, hb⟩ := Array.any_eq_true'.1 hc
          simp only [Bool.and_eq_true, List.contains_eq_mem, decide_eq_true_eq] at hb
          exact ⟨e, he, hb.1, List.mem_cons_of_mem _ hb.2⟩
        · obtain ⟨e, he, hb, hD⟩ := h2 k hk hki ok hok
          exact ⟨e, he, hb, List.mem_cons_of_mem _ hD⟩
      · simp only [if_neg hc]
        exact depsD_spec r D h1 h2

def lookD (l : List (Nat × DOper)) (i : Nat) : Option DOper := (l.find? (·.1 == i)).map (·.2)

def freeD (seps : List (Nat × Nat)) (md : Region.Mode) (ops : Array Oper) (all : List (Nat × DOper)) (listed : Array Bool) (i : Nat) (di : DOper) : Bool :=
  let D := depsD md ops i (List.range ops.size) [i]
  D.all (fun j => !listed.getD j true) && all.all fun x => D.contains x.1 || listed.getD x.1 true || commX seps di x.2

def lexD (seps : List (Nat × Nat)) (md : Region.Mode) (ops : Array Oper) (all : List (Nat × DOper)) : List (Nat × DOper) → Array Bool → Bool
  | [], listed => (Region.ready md ops listed).isEmpty
  | (i, d) :: r, listed => (Region.ready md ops listed).contains i && freeD seps md ops all listed i d && lexD seps md ops all r (listed.setIfInBounds i true)

theorem lookD_mem {l : List (Nat × DOper)} {i : Nat} {d : DOper} (h : lookD l i = some d) : (i, d) ∈ l := by
  unfold lookD at h
  rw [Option.map_eq_some_iff] at h
  obtain ⟨x, hx, rfl⟩ := h
  have h1 := List.find?_some hx
  have h2 := List.mem_of_find?_eq_some hx
  simp only [beq_iff_eq] at h1
  rw [← h1]
  exact h2

theorem lookD_of {i : Nat} {d : DOper} : ∀ {l : List (Nat × DOper)}, (l.map (·.1)).Nodup → (i, d) ∈ l → lookD l i = some d
  | [], _, h => by simp at h
  | x :: l, hn, h => by
    simp only [List.map_cons, List.nodup_cons] at hn
    unfold lookD
    rw [List.find?_cons]
    rcases List.mem_cons.1 h with e | h
    · subst e; simp
    · have hne : (x.1 == i) = false := by
        refine beq_eq_false_iff_ne.2 fun e => hn.1 ?_
        rw [e]
        exact List.mem_map.2 ⟨_, h, rfl⟩
      simp only [hne]
      exact lookD_of hn.2 h

theorem dAny_lex {seps : List (Nat × Nat)} {all : List (Nat × DOper)} (hkp : all.all (fun x => keepJ seps x.2) = true) (hn : (all.map (·.1)).Nodup) : ∀ (l : List (Nat × DOper)) (listed : Array Bool) (s : DS), (∀ x ∈ l, x ∈ all) → lexD seps md ops all l listed = true → SepJ seps s → dops C (l.map (·.2)) s K → dAny C md ops (lookD all) K l.length listed s
  | [], _, s, _, hB, _, h => ⟨by simpa [lexD] using hB, Cl.of h⟩
  | (i, d) :: l, listed, s, hl, hB, hJ, h => by
    have hkeep : ∀ j dj, lookD all j = some dj → keepJ seps dj = true := fun j dj hj => by
      have := List.all_eq_true.1 hkp _ (lookD_mem hj)
      exact this
    have h0 : lookD all i = some d := lookD_of hn (hl _ (by simp))
    simp only [lexD, Bool.and_eq_true] at hB
    obtain ⟨⟨hr, hf⟩, hB'⟩ := hB
    simp only [freeD, Bool.and_eq_true, List.all_eq_true, Bool.not_eq_true', Bool.or_eq_true, List.contains_eq_mem, decide_eq_true_eq] at hf
    obtain ⟨d1, d2⟩ := depsD_spec (md := md) (ops := ops) (i := i) (List.range ops.size) [i] (by simp) (fun j hj hji => by simp at hj; exact absurd hj hji)
    have h' : dstep C d s (fun s1 => dops C (l.map (·.2)) s1 K) := h
    rw [dstep_act] at h'
    have hJ1 := keepJ_spec (C := C) (hkeep i d h0) hJ h'.1
    refine dAny_first hkeep h0 d1 d2 l.length listed s hJ hf.1 (fun j dj hdj hjD hun => ?_) (by simpa using hr) ((dstep_act _ _ _ _).2 ⟨h'.1, ?_⟩)
    · rcases hf.2 _ (lookD_mem hdj) with (h1 | h1) | h1
      · exact absurd h1 hjD
      · rw [hun] at h1; cases h1
      · exact h1
    · exact dAny_lex hkp hn l _ _ (fun x hx => hl x (List.mem_cons_of_mem _ hx)) hB' hJ1 h'.2
end

section
variable {P : Program} {K F0 : Nat → Prop} {σ0 : Nat → Option Nat} {hp0 : List DObj} {N : Nat} {w0 : World} {C : Orc}

theorem Cur.eqv [Inhabited Env] {s s' : DS} {a : Act} {w : World} (h : Cur K N F0 σ0 hp0 w0 s a w) (e : Eqv s' s) : Cur K N F0 σ0 hp0 w0 s' a w := by
  obtain ⟨K', F, σ, hKK, hs, hf, hN, hdef, hmv, hhm⟩ := h
  obtain ⟨e1, e2⟩ := e
  refine ⟨K', F, σ, hKK, by rw [e1]; exact hs, fun n => by rw [e2, e1]; exact hf n, hN, hdef, hmv, by rw [e1]; exact hhm⟩

theorem Cur.drew [Inhabited Env] {s : DS} {a : Act} {w : World} (h : Cur K N F0 σ0 hp0 w0 s a w) : Cur K N F0 σ0 hp0 w0 s a w.drew := by
  obtain ⟨K', F, σ, hKK, hs, hf, hN, hdef, hmv, hhm⟩ := h
  obtain ⟨h1, h2, h3⟩ := hs.ext (w' := w.drew) (F' := F) rfl rfl rfl (Nat.le_refl _) (fun _ _ => rfl) (fun _ h => h) (fun _ h => .inl h) hs.fb
  exact ⟨K', F, σ, hKK, h1, fun n => (hf n).mono h3, hN, hdef.move h2, hmv.trans (h2.weak hKK), hhm.trans h3⟩

/-- Each operation of a list read as the one of its number. -/
def mAt (P : Program) (N : Nat) (ops : Array Oper) : List (Nat × DOper) → Bool
  | [] => true
  | (i, d) :: r => (match ops[i]? with | some o => mOper P N ops o d | none => false) && mAt P N ops r

theorem mAt_mem {ops : Array Oper} {i : Nat} {d : DOper} : ∀ {l : List (Nat × DOper)}, mAt P N ops l = true → (i, d) ∈ l → ∀ o, ops[i]? = some o → mOper P N ops o d = true
  | [], _, h => by simp at h
  | x :: l, hm, h => by
    intro o ho
    simp only [mAt, Bool.and_eq_true] at hm
    rcases List.mem_cons.1 h with e | h
    · subst e
      have := hm.1
      simpa only [ho] using this
    · exact mAt_mem hm.2 h o ho

/-- The check of a region that draws: an order of its operations that stands for every order. -/
def drawOk (P : Program) (N : Nat) (ops : Array Oper) (seps : List (Nat × Nat)) (l : List (Nat × DOper)) : Bool :=
  P.follows .mixedOrders && decide ((l.map (·.1)).Nodup) && (l.length == ops.size) && mAt P N ops l && l.all (fun x => keepJ seps x.2) && lexD seps .any ops l l (Array.replicate ops.size false)

/-- A list with its places. -/
def placesD : Nat → List DOper → List (Nat × DOper)
  | _, [] => []
  | k, d :: r => (k, d) :: placesD (k + 1) r

theorem placesD_ops : ∀ (l : List DOper) (k : Nat), (placesD k l).map (·.2) = l
  | [], _ => rfl
  | d :: r, k => by simp [placesD, placesD_ops r (k + 1)]
end
end Go.Nk
