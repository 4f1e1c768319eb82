/- Every order of a region that draws comes to what the order of the text comes to. -/
import Derived.Test.YtfcnfjaehpeclaaNkR
namespace Go.Nk
open Go.RowKit

def dact (C : Orc) (d : DOper) (s : DS) : Res :=
  match d.guard with
  | none => dval C d.op s
  | some (g, b) => match get g s.fr with
    | .bool b' => if b' = b then dval C d.op s else ⟨True, .tup [], s.hp⟩
    | .tup [] => ⟨True, .tup [], s.hp⟩
    | _ => no

theorem dstep_act (C : Orc) (d : DOper) (s : DS) (K : DS → Prop) : dstep C d s K ↔ (dact C d s).pre ∧ K (s.put d.dst (dact C d s)) := by
  unfold dstep dact
  cases d.guard with
  | none => exact Iff.rfl
  | some gb =>
    obtain ⟨g, b⟩ := gb
    dsimp only
    cases get g s.fr with
    | bool b' => dsimp only; split <;> simp
    | tup vs => cases vs <;> simp [no]
    | _ => simp [no]

theorem dact_congr (C : Orc) (d : DOper) {fr fr' : List (Nat × DV)} (hp : List DObj) (h : ∀ n ∈ d.looks, get n fr = get n fr') : dact C d ⟨fr, hp⟩ = dact C d ⟨fr', hp⟩ := by
  unfold dact
  have h1 : dval C d.op ⟨fr, hp⟩ = dval C d.op ⟨fr', hp⟩ := dval_congr C d.op hp fun n hn => h n (List.mem_append_left _ hn)
  cases hg : d.guard with
  | none => exact h1
  | some gb =>
    obtain ⟨g, b⟩ := gb
    have h2 : get g fr = get g fr' := h g (List.mem_append_right _ (by rw [hg]; simp))
    simp only [h1, h2]

theorem act0 (C : Orc) (d : DOper) (fr : List (Nat × DV)) (hp : List DObj) (hk : d.op.kind = 0) (h : (dact C d ⟨fr, hp⟩).pre) :
    (dact C d ⟨fr, hp⟩).hp = hp ∧ ∀ hp2, (dact C d ⟨fr, hp2⟩).pre ∧ (dact C d ⟨fr, hp2⟩).val = (dact C d ⟨fr, hp⟩).val ∧ (dact C d ⟨fr, hp2⟩).hp = hp2 := by
  unfold dact at h ⊢
  cases hg : d.guard with
  | none => simp only [hg] at h ⊢; exact kind0 C d.op fr hp hk h
  | some gb =>
    obtain ⟨g, b⟩ := gb
    simp only [hg] at h ⊢
    cases hgt : get g fr with
    | bool b' =>
      simp only [hgt] at h ⊢
      by_cases hb : b' = b
      · simp only [if_pos hb] at h ⊢; exact kind0 C d.op fr hp hk h
      · simp only [if_neg hb]; simp
    | tup vs => cases vs with
      | nil => simp
      | cons => simp only [hgt, no] at h
    | _ => simp only [hgt, no] at h

theorem act1 (C : Orc) (d : DOper) (fr : List (Nat × DV)) (hp hp2 : List DObj) (hf : Fz hp hp2) (hk : d.op.kind = 1) :
    ((dact C d ⟨fr, hp2⟩).pre ↔ (dact C d ⟨fr, hp⟩).pre) ∧ ((dact C d ⟨fr, hp⟩).pre → (dact C d ⟨fr, hp2⟩).val = (dact C d ⟨fr, hp⟩).val ∧ (dact C d ⟨fr, hp⟩).hp = hp ∧ (dact C d ⟨fr, hp2⟩).hp = hp2) := by
  obtain ⟨k1, k2, k3⟩ := kind1 C d.op fr hp hp2 hf hk
  unfold dact
  cases hg : d.guard with
  | none => simp only; exact ⟨iff_of_eq k1, fun h => ⟨k2, k3 h⟩⟩
  | some gb =>
    obtain ⟨g, b⟩ := gb
    simp only
    cases hgt : get g fr with
    | bool b' =>
      simp only
      by_cases hb : b' = b
      · simp only [if_pos hb]; exact ⟨iff_of_eq k1, fun h => ⟨k2, k3 h⟩⟩
      · simp only [if_neg hb]; simp
    | tup vs => cases vs with
      | nil => simp
      | cons => simp [no]
    | _ => simp [no]

theorem act2 (C : Orc) (d : DOper) (fr : List (Nat × DV)) (hp : List DObj) (hk : d.op.kind = 2) (h : (dact C d ⟨fr, hp⟩).pre) : Fz hp (dact C d ⟨fr, hp⟩).hp := by
  unfold dact at h ⊢
  cases hg : d.guard with
  | none => simp only [hg] at h ⊢; exact kind2 C d.op fr hp hk h
  | some gb =>
    obtain ⟨g, b⟩ := gb
    simp only [hg] at h ⊢
    cases hgt : get g fr with
    | bool b' =>
      simp only [hgt] at h ⊢
      by_cases hb : b' = b
      · simp only [if_pos hb] at h ⊢; exact kind2 C d.op fr hp hk h
      · simp only [if_neg hb]; exact .refl _
    | tup vs => cases vs with
      | nil => exact .refl _
      | cons => simp only [hgt, no] at h
    | _ => simp only [hgt, no] at h

def Eqv (s s' : DS) : Prop := s.hp = s'.hp ∧ ∀ n, get n s.fr = get n s'.fr
theorem Eqv.refl (s : DS) : Eqv s s := ⟨rfl, fun _ => rfl⟩
theorem Eqv.trans {a b c : DS} (h : Eqv a b) (k : Eqv b c) : Eqv a c := ⟨h.1.trans k.1, fun n => (h.2 n).trans (k.2 n)⟩

def Cl (K : DS → Prop) (s : DS) : Prop := ∃ s0, Eqv s0 s ∧ K s0
theorem Cl.of {K : DS → Prop} {s : DS} (h : K s) : Cl K s := ⟨s, .refl s, h⟩
theorem Cl.eqv {K : DS → Prop} {s s' : DS} (h : Cl K s) (e : Eqv s s') : Cl K s' := let ⟨s0, h0, hk⟩ := h; ⟨s0, h0.trans e, hk⟩

theorem Eqv.put {s s' : DS} (h : Eqv s s') (dst : Option Nat) (r : Res) : Eqv (s.put dst r) (s'.put dst r) := by
  cases dst with
  | none => exact ⟨rfl, h.2⟩
  | some t => exact ⟨rfl, fun n => by simp only [DS.put, get_cons]; split <;> first | rfl | exact h.2 n⟩

theorem dact_eqv (C : Orc) (d : DOper) {s s' : DS} (h : Eqv s s') : dact C d s = dact C d s' := by
  obtain ⟨fr, hp⟩ := s
  obtain ⟨fr', hp'⟩ := s'
  obtain ⟨h1, h2⟩ := h
  dsimp only at h1; subst h1
  exact dact_congr C d _ fun n _ => h2 n

theorem dstep_eqv {C : Orc} {d : DOper} {s s' : DS} {K : DS → Prop} (e : Eqv s s') (hK : ∀ s s', Eqv s s' → K s → K s') (h : dstep C d s K) : dstep C d s' K := by
  rw [dstep_act] at h ⊢
  rw [← dact_eqv C d e]
  exact ⟨h.1, hK _ _ (e.put _ _) h.2⟩

theorem dstep_mono {C : Orc} {d : DOper} {s : DS} {K K' : DS → Prop} (hK : ∀ s, K s → K' s) (h : dstep C d s K) : dstep C d s K' := by
  rw [dstep_act] at h ⊢
  exact ⟨h.1, hK _ h.2⟩

theorem get_put (s : DS) (dst : Option Nat) (r : Res) (n : Nat) (h : ∀ t, dst = some t → n ≠ t) : get n (s.put dst r).fr = get n s.fr := by
  cases dst with
  | none => rfl
  | some t => simp only [DS.put, get_cons]; rw [if_neg (h t rfl)]

theorem put_hp (s : DS) (dst : Option Nat) (r : Res) : (s.put dst r).hp = r.hp := by cases dst <;> rfl

theorem dstep_swap {C : Orc} {di dj : DOper} (hc : commD di dj = true) {s : DS} {X : DS → Prop} (h : dstep C di s (fun s1 => dstep C dj s1 X)) : dstep C dj s (fun s1 => dstep C di s1 (Cl X)) := by
  simp only [commD, Bool.and_eq_true] at hc
  obtain ⟨hap, hk⟩ := hc
  have a1 : ∀ t, di.dst = some t → t ∉ dj.looks ∧ dj.dst ≠ some t := fun t ht => by
    simp only [apartD, ht, Bool.and_eq_true, Bool.not_eq_true', List.contains_eq_mem, decide_eq_false_iff_not, bne_iff_ne] at hap
    exact hap.1
  have a2 : ∀ t, dj.dst = some t → t ∉ di.looks := fun t ht => by
    simp only [apartD, Bool.and_eq_true] at hap
    have := hap.2
    rw [ht] at this
    simpa using this
  obtain ⟨fr, hp⟩ := s
  rw [dstep_act, dstep_act] at h
  obtain ⟨p1, p2, hx⟩ := h
  have e1 : dact C dj (DS.put ⟨fr, hp⟩ di.dst (dact C di ⟨fr, hp⟩)) = dact C dj ⟨fr, (dact C di ⟨fr, hp⟩).hp⟩ := by
    have := dact_congr C dj (fr := (DS.put ⟨fr, hp⟩ di.dst (dact C di ⟨fr, hp⟩)).fr) (fr' := fr) (dact C di ⟨fr, hp⟩).hp (fun n hn => get_put _ _ _ _ fun t ht e => (a1 t ht).1 (e ▸ hn))
    rw [← this]
    cases di.dst <;> rfl
  rw [e1] at p2 hx
  have key : (dact C dj ⟨fr, hp⟩).pre ∧ (dact C di ⟨fr, (dact C dj ⟨fr, hp⟩).hp⟩).pre ∧ (dact C dj ⟨fr, hp⟩).val = (dact C dj ⟨fr, (dact C di ⟨fr, hp⟩).hp⟩).val ∧
      (dact C di ⟨fr, (dact C dj ⟨fr, hp⟩).hp⟩).val = (dact C di ⟨fr, hp⟩).val ∧ (dact C di ⟨fr, (dact C dj ⟨fr, hp⟩).hp⟩).hp = (dact C dj ⟨fr, (dact C di ⟨fr, hp⟩).hp⟩).hp := by
    simp only [kindsD, Bool.or_eq_true, Bool.and_eq_true, beq_iff_eq] at hk
    rcases hk with (((hk | hk) | ⟨hi, hj⟩) | ⟨hi, hj⟩) | ⟨hi, hj⟩
    · obtain ⟨q1, q2⟩ := act0 C di fr hp hk p1
      rw [q1] at p2 ⊢
      obtain ⟨r1, r2, r3⟩ := q2 (dact C dj ⟨fr, hp⟩).hp
      exact ⟨p2, r1, rfl, r2, r3⟩
    · obtain ⟨q1, q2⟩ := act0 C dj fr _ hk p2
      obtain ⟨r1, r2, r3⟩ := q2 hp
      rw [r3]
      exact ⟨r1, p1, r2, rfl, q1.symm⟩
    · obtain ⟨q1, q2⟩ := act1 C di fr hp hp (.refl _) hi
      obtain ⟨_, q3, _⟩ := q2 p1
      rw [q3] at p2 ⊢
      obtain ⟨s1, s2⟩ := act1 C dj fr hp hp (.refl _) hj
      obtain ⟨_, s3, _⟩ := s2 p2
      rw [s3]
      exact ⟨p2, p1, rfl, rfl, q3⟩
    · obtain ⟨_, q3, _⟩ := (act1 C di fr hp hp (.refl _) hi).2 p1
      rw [q3] at p2 ⊢
      have hfz := act2 C dj fr hp hj p2
      obtain ⟨s1, s2⟩ := act1 C di fr hp _ hfz hi
      obtain ⟨t1, _, t3⟩ := s2 p1
      exact ⟨p2, s1.2 p1, rfl, t1, t3⟩
    · have hfz := act2 C di fr hp hi p1
      obtain ⟨s1, s2⟩ := act1 C dj fr hp _ hfz hj
      have hpj := s1.1 p2
      obtain ⟨t1, t2, t3⟩ := s2 hpj
      rw [t2]
      exact ⟨hpj, p1, t1.symm, rfl, t3.symm⟩
  obtain ⟨k1, k2, k3, k4, k5⟩ := key
  have e2 : dact C di (DS.put ⟨fr, hp⟩ dj.dst (dact C dj ⟨fr, hp⟩)) = dact C di ⟨fr, (dact C dj ⟨fr, hp⟩).hp⟩ := by
    have := dact_congr C di (fr := (DS.put ⟨fr, hp⟩ dj.dst (dact C dj ⟨fr, hp⟩)).fr) (fr' := fr) (dact C dj ⟨fr, hp⟩).hp (fun n hn => get_put _ _ _ _ fun t ht e => a2 t ht (e ▸ hn))
    rw [← this]
    cases dj.dst <;> rfl
  rw [dstep_act, dstep_act, e2]
  refine ⟨k1, k2, _, ⟨?_, fun n => ?_⟩, hx⟩
  · rw [put_hp, put_hp, k5]
  · by_cases h1 : ∃ t, di.dst = some t ∧ n = t
    · obtain ⟨t, ht, rfl⟩ := h1
      rw [get_put _ _ _ n (fun t' ht' e => (a1 n ht).2 (by rw [ht', ← e]))]
      simp only [ht, DS.put, get_cons, if_true, k4]
    · rw [get_put (DS.put ⟨fr, hp⟩ dj.dst _) _ _ _ (fun t ht e => h1 ⟨t, ht, e⟩)]
      by_cases h2 : ∃ t, dj.dst = some t ∧ n = t
      · obtain ⟨t, ht, rfl⟩ := h2
        simp only [ht, DS.put, get_cons, if_true, k3]
      · rw [get_put _ _ _ _ (fun t ht e => h2 ⟨t, ht, e⟩), get_put _ _ _ _ (fun t ht e => h2 ⟨t, ht, e⟩), get_put _ _ _ _ (fun t ht e => h1 ⟨t, ht, e⟩)]

/-- Whatever order is picked from here on. -/
def dAny (C : Orc) (md : Region.Mode) (ops : Array Oper) (dl : List DOper) (K : DS → Prop) : Nat → Array Bool → DS → Prop
  | 0, listed, s => Region.ready md ops listed = [] ∧ Cl K s
  | f + 1, listed, s => (Region.ready md ops listed = [] → Cl K s) ∧ ∀ i ∈ Region.ready md ops listed, ∃ d, dl[i]? = some d ∧ dstep C d s (fun s' => dAny C md ops dl K f (listed.setIfInBounds i true) s')

section
variable {C : Orc} {md : Region.Mode} {ops : Array Oper} {dl : List DOper} {K : DS → Prop}

theorem dAny_eqv : ∀ {f : Nat} {listed : Array Bool} {s s' : DS}, Eqv s s' → dAny C md ops dl K f listed s → dAny C md ops dl K f listed s'
  | 0, _, _, _, e, h => ⟨h.1, h.2.eqv e⟩
  | f + 1, _, _, _, e, h => ⟨fun h0 => (h.1 h0).eqv e, fun i hi => by
    obtain ⟨d, hd, hs⟩ := h.2 i hi
    exact ⟨d, hd, dstep_eqv e (fun _ _ e' h' => dAny_eqv e' h') hs⟩⟩

theorem dAny_first {i : Nat} {di : DOper} (hi : dl[i]? = some di) (hlen : dl.length = ops.size) : ∀ (fuel : Nat) (listed : Array Bool) (s : DS),
    (∀ j dj oj, dl[j]? = some dj → ops[j]? = some oj → j ≠ i → listed.getD j true = false → (∀ e ∈ oj.after, Region.binds md e = true → e.on ≠ i) → commD di dj = true) →
    i ∈ Region.ready md ops listed → dstep C di s (fun s1 => dAny C md ops dl K fuel (listed.setIfInBounds i true) s1) → dAny C md ops dl K (fuel + 1) listed s := by
  intro fuel
  induction fuel with
  | zero =>
    intro listed s _ hr H
    refine ⟨fun h => (by rw [h] at hr; cases hr), fun j hj => ?_⟩
    by_cases hji : j = i
    · subst hji; exact ⟨di, hi, H⟩
    · have := ready_mono hj hji
      rw [dstep_act] at H
      rw [H.2.1] at this
      cases this
  | succ fuel ih =>
    intro listed s hfree hr H
    refine ⟨fun h => (by rw [h] at hr; cases hr), fun j hj => ?_⟩
    by_cases hji : j = i
    · subst hji; exact ⟨di, hi, H⟩
    · obtain ⟨hjun, oj, hoj, hall⟩ := mem_ready.1 hj
      have hjlt : j < dl.length := by rw [hlen]; exact (Array.getElem?_eq_some_iff.1 hoj).1
      have hdj : dl[j]? = some dl[j] := by simp [hjlt]
      have hnot : ∀ e ∈ oj.after, Region.binds md e = true → e.on ≠ i := fun e he hb heq => by
        have h1 := hall e he hb
        have h0 := (mem_ready.1 hr).1
        rw [heq] at h1
        rcases Nat.lt_or_ge i listed.size with h' | h'
        · simp [h'] at h0 h1; rw [h0] at h1; cases h1
        · simp [Array.getElem?_eq_none h'] at h1
      have hcomm := hfree j dl[j] oj hdj hoj hji hjun hnot
      have H' : dstep C di s (fun s1 => dstep C dl[j] s1 (fun s2 => dAny C md ops dl K fuel ((listed.setIfInBounds i true).setIfInBounds j true) s2)) := by
        refine dstep_mono (fun s1 h1 => ?_) H
        obtain ⟨d, hd, hs⟩ := h1.2 j (ready_mono hj hji)
        rw [hdj] at hd; injection hd with hd; subst hd
        exact hs
      refine ⟨dl[j], hdj, dstep_mono (fun s1 h1 => ?_) (dstep_swap hcomm H')⟩
      refine ih (listed.setIfInBounds j true) s1 (fun k dk ok hdk hok hki hun hno => ?_) (ready_mono hr (Ne.symm hji)) (dstep_mono (fun s2 h2 => ?_) h1)
      · refine hfree k dk ok hdk hok hki ?_ hno
        by_cases hjk : j = k
        · subst hjk; exact hjun
        · rw [getD_set_ne true hjk] at hun; exact hun
      · rw [Array.setIfInBounds_comm _ _ hji]
        obtain ⟨s0, e0, h0⟩ := h2
        exact dAny_eqv e0 h0

def freeD (md : Region.Mode) (ops : Array Oper) (dl : List DOper) (listed : Array Bool) (i : Nat) : Bool :=
  match dl[i]? with
  | none => false
  | some di => (List.range ops.size).all fun j => j == i || listed.getD j true || match ops[j]?, dl[j]? with
      | some oj, some dj => oj.after.any (fun e => Region.binds md e && e.on == i) || commD di dj
      | _, _ => true

def lexD (md : Region.Mode) (ops : Array Oper) (dl : List DOper) : Nat → Nat → Array Bool → Bool
  | 0, _, listed => (Region.ready md ops listed).isEmpty
  | f + 1, k, listed => (Region.ready md ops listed).contains k && freeD md ops dl listed k && lexD md ops dl f (k + 1) (listed.setIfInBounds k true)

theorem freeD_spec {i : Nat} {di : DOper} {listed : Array Bool} (hi : dl[i]? = some di) (h : freeD md ops dl listed i = true) : ∀ j dj oj, dl[j]? = some dj → ops[j]? = some oj → j ≠ i → listed.getD j true = false → (∀ e ∈ oj.after, Region.binds md e = true → e.on ≠ i) → commD di dj = true := by
  intro j dj oj hdj hoj hne hun hno
  simp only [freeD, hi, List.all_eq_true, List.mem_range] at h
  have h1 := h j (Array.getElem?_eq_some_iff.1 hoj).1
  simp only [hoj, hdj, Bool.or_eq_true, beq_iff_eq, hne, false_or, hun, Bool.false_eq_true] at h1
  rcases h1 with h1 | h1
  · obtain ⟨e, he, hb⟩ := Array.any_eq_true'.1 h1
    simp only [Bool.and_eq_true, beq_iff_eq] at hb
    exact absurd hb.2 (hno e he hb.1)
  · exact h1

theorem dAny_lex (hlen : dl.length = ops.size) : ∀ (l : List DOper) (k : Nat) (listed : Array Bool) (s : DS), (∀ j : Nat, l[j]? = dl[k + j]?) → lexD md ops dl l.length k listed = true → dops C l s K → dAny C md ops dl K l.length listed s
  | [], _, _, s, _, hB, h => ⟨by simpa [lexD] using hB, Cl.of h⟩
  | d :: l, k, listed, s, hl, hB, h => by
    have h0 : dl[k]? = some d := by simpa using (hl 0).symm
    simp only [List.length_cons, lexD, Bool.and_eq_true] at hB
    obtain ⟨⟨hr, hf⟩, hB'⟩ := hB
    refine dAny_first h0 hlen l.length listed s (freeD_spec h0 hf) (by simpa using hr) (dstep_mono (fun s1 h1 => ?_) h)
    exact dAny_lex hlen l (k + 1) _ s1 (fun j => by have := hl (j + 1); simpa [Nat.add_assoc, Nat.add_comm 1 j] using this) hB' h1
end

section
variable {P : Program} {K F0 : Nat → Prop} {σ0 : Nat → Option Nat} {hp0 : List DObj} {N : Nat} {w0 : World} {C : Orc}

theorem Cur.eqv {s s' : DS} {a : Act} {w : World} (h : Cur K N F0 σ0 hp0 w0 s a w) (e : Eqv s' s) : Cur K N F0 σ0 hp0 w0 s' a w := by
  obtain ⟨F, σ, hs, hf, hN, hdef, hmv, hhm⟩ := h
  obtain ⟨e1, e2⟩ := e
  refine ⟨F, σ, by rw [e1]; exact hs, fun n => by rw [e2, e1]; exact hf n, hN, hdef, hmv, by rw [e1]; exact hhm⟩

theorem Cur.drew {s : DS} {a : Act} {w : World} (h : Cur K N F0 σ0 hp0 w0 s a w) : Cur K N F0 σ0 hp0 w0 s a w.drew := by
  obtain ⟨F, σ, hs, hf, hN, hdef, hmv, hhm⟩ := h
  obtain ⟨h1, h2, h3⟩ := hs.ext (w' := w.drew) (F' := F) rfl rfl rfl (Nat.le_refl _) (fun _ _ => rfl) (fun _ h => h) (fun _ h => .inl h) hs.fb
  exact ⟨F, σ, h1, fun n => (hf n).mono h3, hN, hdef, hmv.trans h2, hhm.trans h3⟩

theorem mOpers_at {ops : Array Oper} : ∀ {l : List Oper} {dl : List DOper}, mOpers P N ops l dl = true → dl.length = l.length ∧ ∀ (i : Nat) (o : Oper) (d : DOper), l[i]? = some o → dl[i]? = some d → mOper P N ops o d = true
  | [], [], _ => ⟨rfl, fun i o d h => by simp at h⟩
  | o :: l, d :: dl, h => by
    simp only [mOpers, Bool.and_eq_true] at h
    obtain ⟨h1, h2⟩ := mOpers_at h.2
    refine ⟨by simp [h1], fun i o' d' ho hd => ?_⟩
    cases i with
    | zero => simp at ho hd; subst ho hd; exact h.1
    | succ i => exact h2 i o' d' (by simpa using ho) (by simpa using hd)
  | [], _ :: _, h => by simp [mOpers] at h
  | _ :: _, [], h => by simp [mOpers] at h

theorem any_sound (hC : C.ok P) {md : Region.Mode} {ops : Array Oper} {dl : List DOper} (hm : mOpers P N ops ops.toList dl = true) {Q : Exit → Act → World → Prop} {Kd : DS → Prop} (hK : ∀ s' a' w', Cur K N F0 σ0 hp0 w0 s' a' w' → Kd s' → Q .normal a' w') :
    ∀ (f : Nat) (listed : Array Bool) (s : DS) (a : Act) (w : World), Cur K N F0 σ0 hp0 w0 s a w → dAny C md ops dl Kd f listed s → wpAny P md ops Q f listed a w
  | 0, listed, s, a, w, hc, h => ⟨h.1, let ⟨s0, e, hk⟩ := h.2; hK s0 a w (hc.eqv e) hk⟩
  | f + 1, listed, s, a, w, hc, h => by
    refine ⟨fun h0 => let ⟨s0, e, hk⟩ := h.1 h0; hK s0 a w (hc.eqv e) hk, fun i hi => ?_⟩
    obtain ⟨d, hd, hs⟩ := h.2 i hi
    obtain ⟨_, o, ho, _⟩ := mem_ready.1 hi
    have hmo := (mOpers_at hm).2 i o d (by simpa using ho) hd
    unfold wpOp
    simp only [ho]
    have := step_sound hC hmo hc hs (Kn := wpAny P md ops Q f (listed.setIfInBounds i true)) (Q := Q) (fun s' a' w' hc' h' => any_sound hC hm hK f _ s' a' w' hc' h')
    split at this
    · rename_i hw; rw [if_pos hw]; exact .inl this
    · rename_i hw; rw [if_neg hw]; exact this

theorem region_draw (hC : C.ok P) (hmix : P.follows .mixedOrders = true) {id : Nat} {ops : Array Oper} {dl : List DOper} (hm : mOpers P N ops ops.toList dl = true) (hlex : lexD .any ops dl dl.length 0 (Array.replicate ops.size false) = true)
    {Q : Exit → Act → World → Prop} {Kd : DS → Prop} (hK : ∀ s' a' w', Cur K N F0 σ0 hp0 w0 s' a' w' → Kd s' → Q .normal a' w') {s : DS} {a : Act} {w : World} (hc : Cur K N F0 σ0 hp0 w0 s a w) (h : dops C dl s Kd) :
    (Code.region id ops true).wp P Q a w := by
  refine wp_region_any hmix ?_
  have hlen : dl.length = ops.size := by have := (mOpers_at hm).1; simpa using this
  have := any_sound hC hm hK dl.length (Array.replicate ops.size false) s a w.drew hc.drew (dAny_lex hlen dl 0 _ s (by simp) hlex h)
  rw [hlen] at this
  exact this
end
end Go.Nk
