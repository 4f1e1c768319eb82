/- Regions that draw their order: the order of the text serves for every order, where a check says so. -/
import Derived.Test.YtjgefhgkinocmaaGreatNkP
set_option linter.all false
namespace Go.Nk
open Go.RowKit

def DA.sl : DA → List Nat
  | .t n => [n]
  | .c _ => []

def slL (l : List DA) : List Nat := l.flatMap DA.sl
def slO (l : Option DA) : List Nat := match l with | some x => x.sl | none => []

/-- The slots that an operation looks at. -/
def DOp.sl : DOp → List Nat
  | .bref x | .capn x | .home _ x | .mv x | .mvf x | .mvd x | .mark x | .mkown _ x | .un _ x | .conv _ x | .s2b x | .b2s x | .same x | .snil _ x | .len x | .lenS x | .load _ x | .faddr _ x | .field _ _ x | .box x | .extract _ x | .nilck x => x.sl
  | .pick a b c => a.sl ++ (b.sl ++ c.sl)
  | .xcas _ _ a b c => a.sl ++ (b.sl ++ c.sl)
  | .xload _ _ x => x.sl
  | .bin _ x y | .beq _ x y | .peq _ x y | .aeq _ _ x y | .minmax _ x y | .store _ x y | .iaddr _ x y | .iaddrA _ _ x y | .slA _ x y | .index x y | .make _ x y | .append _ x y | .appl _ x y | .appz _ _ x y | .copy _ x y | .xstore _ _ x y | .xadd _ _ x y => x.sl ++ y.sl
  | .slice _ x a b c => x.sl ++ (slO a ++ (slO b ++ slO c))
  | .sliceS x a b => x.sl ++ (slO a ++ slO b)
  | .bslice _ _ ps | .bown _ ps => ps.flatMap slO
  | .build _ ps => ps.flatMap fun p => p.2.2.sl
  | .alloc _ | .bad | .aa _ _ => []
  | .mkfun _ xs | .mkmeth _ xs | .callP _ xs | .callH _ xs => slL xs
  | .cl b _ _ xs | .clo _ b _ _ xs => b :: slL xs
  | .callvP f xs | .callvH f xs => f.sl ++ slL xs
  | .im d | .rd d | .al d | .fz d => d.sl
  | .rz _ d => d.sl
  | .rk _ d => d.sl
  | .tk b _ d => b :: d.sl
  | .to b d => b :: d.sl
  | .ei _ xs => slL xs

def DOper.looks (d : DOper) : List Nat := d.op.sl ++ (match d.guard with | some (g, _) => [g] | none => [])

def apartD (x y : DOper) : Bool :=
  (match x.dst with | some d => !(y.looks).contains d && y.dst != some d | none => true) &&
  (match y.dst with | some d => !(x.looks).contains d | none => true)

def kindsD (a b : Nat) : Bool := a == 0 || b == 0 || (a == 1 && b == 1) || (a == 1 && b == 2) || (a == 2 && b == 1) || (a == 1 && (b == 4 || b == 5)) || (a == 2 && b == 4) || (a == 7 && (b == 7 || b == 1)) || (a == 1 && (b == 7 || b == 10))

theorem ev_congr {fr fr' : List (Nat × DV)} {x : DA} (h : ∀ n ∈ x.sl, get n fr = get n fr') : x.ev fr = x.ev fr' := by
  cases x with
  | t n => exact h n (by simp [DA.sl])
  | c d => rfl

theorem evL_congr {fr fr' : List (Nat × DV)} {xs : List DA} (h : ∀ n ∈ slL xs, get n fr = get n fr') : xs.map (·.ev fr) = xs.map (·.ev fr') :=
  List.map_congr_left fun x hx => ev_congr fun n hn => h n (List.mem_flatMap.2 ⟨x, hx, hn⟩)

theorem evO_congr {fr fr' : List (Nat × DV)} {x : Option DA} (h : ∀ n ∈ slO x, get n fr = get n fr') : x.map (·.ev fr) = x.map (·.ev fr') := by
  cases x with
  | none => rfl
  | some x => exact congrArg some (ev_congr h)

theorem build_congr {fr fr' : List (Nat × DV)} : ∀ (ps : List (Nat × Nat × DA)) (cells : List DV), (∀ n ∈ ps.flatMap fun p => p.2.2.sl, get n fr = get n fr') → buildCells cells fr ps = buildCells cells fr' ps
  | [], cells, _ => rfl
  | (off, n, x) :: ps, cells, h => by
    have hx : x.ev fr = x.ev fr' := ev_congr fun n hn => h n (by simp [hn])
    simp only [buildCells, hx]
    rw [build_congr ps _ fun n hn => h n (by simp only [List.flatMap_cons, List.mem_append]; exact .inr hn)]

theorem dval_congr (C : Orc) (d : DOp) {fr fr' : List (Nat × DV)} (hp : List DObj) (h : ∀ n ∈ d.sl, get n fr = get n fr') : dval C d ⟨fr, hp⟩ = dval C d ⟨fr', hp⟩ := by
  cases d
  case bown zero ps =>
    have e : ∀ p ∈ ps, p.map (·.ev fr) = p.map (·.ev fr') := fun p hp => evO_congr fun n hn => h n (List.mem_flatMap.2 ⟨p, hp, hn⟩)
    have e1 : ps.map (bRow fr zero) = ps.map (bRow fr' zero) := by
      refine List.map_congr_left fun p hp => ?_
      have := e p hp
      cases p with
      | none => rfl
      | some x => simp at this; simp [bRow, this]
    have e2 : ps.all (bU fr zero) = ps.all (bU fr' zero) := by
      have : ∀ p ∈ ps, bU fr zero p = bU fr' zero p := fun p hp => by
        have := e p hp
        cases p with
        | none => rfl
        | some x => simp at this; simp [bU, this]
      rw [Bool.eq_iff_iff, List.all_eq_true, List.all_eq_true]
      exact ⟨fun hh p hp => (this p hp) ▸ hh p hp, fun hh p hp => (this p hp).symm ▸ hh p hp⟩
    simp only [dval, e1, e2]
  case bslice imm zero ps =>
    have e : ∀ p ∈ ps, p.map (·.ev fr) = p.map (·.ev fr') := fun p hp => evO_congr fun n hn => h n (List.mem_flatMap.2 ⟨p, hp, hn⟩)
    have e1 : ps.map (bRow fr zero) = ps.map (bRow fr' zero) := by
      refine List.map_congr_left fun p hp => ?_
      have := e p hp
      cases p with
      | none => rfl
      | some x => simp at this; simp [bRow, this]
    have e2 : ps.all (bU fr zero) = ps.all (bU fr' zero) := by
      have : ∀ p ∈ ps, bU fr zero p = bU fr' zero p := fun p hp => by
        have := e p hp
        cases p with
        | none => rfl
        | some x => simp at this; simp [bU, this]
      rw [Bool.eq_iff_iff, List.all_eq_true, List.all_eq_true]
      exact ⟨fun hh p hp => (this p hp) ▸ hh p hp, fun hh p hp => (this p hp).symm ▸ hh p hp⟩
    simp only [dval, e1, e2]
  case build zero ps => simp only [dval]; rw [build_congr ps zero h]
  case mkfun f xs => simp only [dval]; rw [evL_congr h]
  case mkmeth f xs => simp only [dval]; rw [evL_congr h]
  case callP f xs => simp only [dval]; rw [evL_congr h]
  case callH f xs => simp only [dval]; rw [evL_congr h]
  case cl b z f xs =>
    have h1 : get b fr = get b fr' := h b (by simp [DOp.sl])
    simp only [dval, h1]; rw [evL_congr fun n hn => h n (by simp [DOp.sl, hn])]
  case clo hh b z f xs =>
    have h1 : get b fr = get b fr' := h b (by simp [DOp.sl])
    simp only [dval, h1]; rw [evL_congr fun n hn => h n (by simp [DOp.sl, hn])]
  case callvP f xs =>
    have h1 : f.ev fr = f.ev fr' := ev_congr fun n hn => h n (by simp [DOp.sl, hn])
    simp only [dval, h1]; rw [evL_congr fun n hn => h n (by simp [DOp.sl, hn])]
  case callvH f xs =>
    have h1 : f.ev fr = f.ev fr' := ev_congr fun n hn => h n (by simp [DOp.sl, hn])
    simp only [dval, h1]; rw [evL_congr fun n hn => h n (by simp [DOp.sl, hn])]
  case slice z x a b c =>
    have h1 : x.ev fr = x.ev fr' := ev_congr fun n hn => h n (by simp [DOp.sl, hn])
    simp only [dval, h1]
    rw [evO_congr fun n hn => h n (by simp [DOp.sl, hn]), evO_congr (x := b) fun n hn => h n (by simp [DOp.sl, hn]), evO_congr (x := c) fun n hn => h n (by simp [DOp.sl, hn])]
  case sliceS x a b =>
    have h1 : x.ev fr = x.ev fr' := ev_congr fun n hn => h n (by simp [DOp.sl, hn])
    simp only [dval, h1]
    rw [evO_congr fun n hn => h n (by simp [DOp.sl, hn]), evO_congr (x := b) fun n hn => h n (by simp [DOp.sl, hn])]
  case pick a b c =>
    have h1 : a.ev fr = a.ev fr' := ev_congr fun n hn => h n (by simp [DOp.sl, hn])
    have h2 : b.ev fr = b.ev fr' := ev_congr fun n hn => h n (by simp [DOp.sl, hn])
    have h3 : c.ev fr = c.ev fr' := ev_congr fun n hn => h n (by simp [DOp.sl, hn])
    simp only [dval, h1, h2, h3]
  case xcas k f a b c =>
    have h1 : a.ev fr = a.ev fr' := ev_congr fun n hn => h n (by simp [DOp.sl, hn])
    have h2 : b.ev fr = b.ev fr' := ev_congr fun n hn => h n (by simp [DOp.sl, hn])
    have h3 : c.ev fr = c.ev fr' := ev_congr fun n hn => h n (by simp [DOp.sl, hn])
    simp only [dval, h1, h2, h3]
  case alloc zero => rfl
  case im d => rfl
  case rd d => rfl
  case rz z d => rfl
  case to b d => rfl
  case al d => rfl
  case rk lo d => rfl
  case tk b lo d => rfl
  case bad => rfl
  case aa hh zero => rfl
  case fz d => rfl
  case ei f xs => rfl
  all_goals
    first
    | (rename_i x y; have h1 : x.ev fr = x.ev fr' := ev_congr fun n hn => h n (by simp [DOp.sl, hn]); have h2 : y.ev fr = y.ev fr' := ev_congr fun n hn => h n (by simp [DOp.sl, hn]); simp only [dval, h1, h2]; done)
    | (rename_i x; have h1 : x.ev fr = x.ev fr' := ev_congr fun n hn => h n (by simp [DOp.sl, hn]); simp only [dval, h1]; done)

theorem viaLow_congr (lo : Nat) (d : DOp) {fr fr' : List (Nat × DV)} (h : ∀ n ∈ d.sl, get n fr = get n fr') : viaLow lo fr d = viaLow lo fr' d := by
  cases d <;> try rfl
  case load s x =>
    have h1 : x.ev fr = x.ev fr' := ev_congr fun n hn => h n hn
    cases s <;> simp only [viaLow, h1]

theorem viaZ_congr (z : Nat) (d : DOp) {fr fr' : List (Nat × DV)} (hp : List DObj) (h : ∀ n ∈ d.sl, get n fr = get n fr') : viaZ z ⟨fr, hp⟩ d = viaZ z ⟨fr', hp⟩ d := by
  cases d <;> try rfl
  case load s x => cases x <;> first | rfl | (simp only [viaZ]; rw [h _ (by simp [DOp.sl, DA.sl])])
  case faddr s x => cases x <;> first | rfl | (simp only [viaZ]; rw [h _ (by simp [DOp.sl, DA.sl])])
  case nilck x => cases x <;> first | rfl | (simp only [viaZ]; rw [h _ (by simp [DOp.sl, DA.sl])])
  case len x => cases x <;> first | rfl | (simp only [viaZ]; rw [h _ (by simp [DOp.sl, DA.sl])])
  case iaddr n x y => cases x <;> first | rfl | (simp only [viaZ]; rw [h _ (by simp [DOp.sl, DA.sl])])
  case iaddrA n m x y => cases x <;> first | rfl | (simp only [viaZ]; rw [h _ (by simp [DOp.sl, DA.sl])])

theorem dvalX_congr (C : Orc) (d : DOp) {fr fr' : List (Nat × DV)} (hp : List DObj) (h : ∀ n ∈ d.sl, get n fr = get n fr') : dvalX C d ⟨fr, hp⟩ = dvalX C d ⟨fr', hp⟩ := by
  cases d
  case im d => simp only [dvalX]; rw [dval_congr C d [] h]
  case rd d => simp only [dvalX]; rw [dval_congr C d hp h]
  case rz z d => simp only [dvalX]; rw [dval_congr C d hp h, viaZ_congr z d hp h]
  case al d => simp only [dvalX]; rw [dval_congr C d hp h]
  case fz d => simp only [dvalX]; rw [dval_congr C d hp h]
  case rk lo d => simp only [dvalX]; rw [dval_congr C d hp h, viaLow_congr lo d h]
  case tk b lo d => simp only [dvalX]; rw [dval_congr C d hp fun n hn => h n (List.mem_cons_of_mem _ hn), h b (by simp [DOp.sl])]
  case ei f xs => simp only [dvalX]; rw [dval_congr C (.callH f xs) hp h, dval_congr C (.callP f xs) hp h]
  case to b d => simp only [dvalX]; rw [dval_congr C d hp fun n hn => h n (List.mem_cons_of_mem _ hn), h b (by simp [DOp.sl])]
  all_goals exact dval_congr C _ hp h

def DOp.kindX : DOp → Nat
  | .im _ => 0
  | .rd _ => 7
  | .rz .. => 9
  | .to .. => 8
  | .ei .. => 9
  | .fz _ | .rk .. | .tk .. => 9
  | .al _ => 10
  | d => d.kind

theorem dvalX_eq {C : Orc} {d : DOp} {s : DS} (h : d.kindX ≠ 0 ∧ d.kindX ≠ 7 ∧ d.kindX ≠ 8 ∧ d.kindX ≠ 9 ∧ d.kindX ≠ 10) : dvalX C d s = dval C d s := by
  cases d <;> first | rfl | exact absurd rfl h.1 | exact absurd rfl h.2.1 | exact absurd rfl h.2.2.1 | exact absurd rfl h.2.2.2.1 | exact absurd rfl h.2.2.2.2
theorem kindX_eq {d : DOp} (h : d.kindX ≠ 0 ∧ d.kindX ≠ 7 ∧ d.kindX ≠ 8 ∧ d.kindX ≠ 9 ∧ d.kindX ≠ 10) : d.kindX = d.kind := by
  cases d <;> first | rfl | exact absurd rfl h.1 | exact absurd rfl h.2.1 | exact absurd rfl h.2.2.1 | exact absurd rfl h.2.2.2.1 | exact absurd rfl h.2.2.2.2

def commD (x y : DOper) : Bool := apartD x y && kindsD x.op.kindX y.op.kindX

/-- The same heap, but for what has been frozen. -/
def Fz (hp hp' : List DObj) : Prop :=
  hp.length = hp'.length ∧ ∀ (h : Nat) (o : DObj), hp[h]? = some o → ∃ o', hp'[h]? = some o' ∧ o'.z = o.z ∧ o'.es = o.es ∧ (o'.k = o.k ∨ (o.k = .imm ∧ o'.k = .frz))

theorem Fz.refl (hp : List DObj) : Fz hp hp := ⟨rfl, fun _ o ho => ⟨o, ho, rfl, rfl, .inl rfl⟩⟩
theorem Fz.trans {a b c : List DObj} (h : Fz a b) (k : Fz b c) : Fz a c := ⟨h.1.trans k.1, fun i o ho => by
  obtain ⟨o', h1, h2, h3, h4⟩ := h.2 i o ho
  obtain ⟨o'', k1, k2, k3, k4⟩ := k.2 i o' h1
  refine ⟨o'', k1, k2.trans h2, k3.trans h3, ?_⟩
  rcases h4 with h4 | ⟨h4, h5⟩
  · rcases k4 with k4 | ⟨k4, k5⟩
    · exact .inl (k4.trans h4)
    · exact .inr ⟨h4 ▸ k4, k5⟩
  · rcases k4 with k4 | ⟨k4, k5⟩
    · exact .inr ⟨h4, k4.trans h5⟩
    · rw [h5] at k4; cases k4⟩

theorem Fz.get {hp hp' : List DObj} (h : Fz hp hp') (i : Nat) : (hp[i]? = none ∧ hp'[i]? = none) ∨ ∃ o o', hp[i]? = some o ∧ hp'[i]? = some o' ∧ o'.z = o.z ∧ o'.es = o.es ∧ (o'.k = .dead ↔ o.k = .dead) ∧ (o'.k = .imm ∨ o'.k = .frz ↔ o.k = .imm ∨ o.k = .frz) := by
  cases hi : hp[i]? with
  | none =>
    left
    refine ⟨rfl, ?_⟩
    rw [List.getElem?_eq_none_iff] at hi ⊢
    have := h.1; omega
  | some o =>
    obtain ⟨o', h1, h2, h3, h4⟩ := h.2 i o hi
    refine .inr ⟨o, o', rfl, h1, h2, h3, ?_, ?_⟩
    · rcases h4 with h4 | ⟨h4, h5⟩
      · rw [h4]
      · rw [h4, h5]; simp
    · rcases h4 with h4 | ⟨h4, h5⟩
      · rw [h4]
      · rw [h4, h5]; simp

theorem Fz.alive {hp hp' : List DObj} (h : Fz hp hp') (i L : Nat) : alive hp' i L ↔ alive hp i L := by
  unfold Nk.alive
  rcases h.get i with ⟨h1, h2⟩ | ⟨o, o', h1, h2, hz, he, hd, hk⟩
  · rw [h1, h2]
  · rw [h1, h2]; simp only [he, ne_eq, hd]

theorem Fz.elems {hp hp' : List DObj} (h : Fz hp hp') (d : DV) : elemsOf hp' d = elemsOf hp d := by
  unfold elemsOf
  split <;> try rfl
  rename_i i L off len
  rcases h.get i with ⟨h1, h2⟩ | ⟨o, o', h1, h2, hz, he, hd, hk⟩
  · rw [h1, h2]
  · rw [h1, h2]; simp only [he]
    by_cases h3 : o.k = .imm ∨ o.k = .frz
    · rw [if_pos h3, if_pos (hk.2 h3)]
    · rw [if_neg h3, if_neg (fun e => h3 (hk.1 e))]

theorem Fz.cells {hp hp' : List DObj} (h : Fz hp hp') (d : DV) : cellsAt hp' d = cellsAt hp d := by
  unfold cellsAt
  split <;> try rfl
  rename_i i L r j
  rcases h.get i with ⟨h1, h2⟩ | ⟨o, o', h1, h2, hz, he, hd, hk⟩
  · rw [h1, h2]
  · rw [h1, h2]; simp only [he]
    by_cases h3 : o.k = .dead
    · rw [if_pos h3, if_pos (hd.2 h3)]
    · rw [if_neg h3, if_neg (fun e => h3 (hd.1 e))]

theorem kind0 (C : Orc) (d : DOp) (fr : List (Nat × DV)) (hp : List DObj) (hk : d.kind = 0) (h : (dval C d ⟨fr, hp⟩).pre) :
    (dval C d ⟨fr, hp⟩).hp = hp ∧ ∀ hp2, (dval C d ⟨fr, hp2⟩).pre ∧ (dval C d ⟨fr, hp2⟩).val = (dval C d ⟨fr, hp⟩).val ∧ (dval C d ⟨fr, hp2⟩).hp = hp2 := by
  cases d <;> simp only [DOp.kind, reduceCtorEq] at hk <;> simp only [dval] at h ⊢
  case pick a b c => split at h <;> simp_all [no]
  case conv k x => split at h <;> simp_all [no]
  case s2b x => split at h <;> simp_all [no]
  case same x => split at h <;> simp_all [no]
  case lenS x => split at h <;> simp_all [no]
  case capn x => split at h <;> simp_all [no]
  case minmax m x y => split at h <;> simp_all [no]
  case field o s x => split at h <;> simp_all [no]
  case index x y => split at h <;> simp_all [no]
  case extract i x => split at h <;> simp_all [no]
  all_goals first | (simp; done) | (simp only [true_and, and_true, forall_const]; exact h) | exact ⟨rfl, fun _ => ⟨h, rfl, rfl⟩⟩ | exact ⟨trivial, fun _ => ⟨h, trivial, trivial⟩⟩

theorem kind0X (C : Orc) (d : DOp) (fr : List (Nat × DV)) (hp : List DObj) (hk : d.kindX = 0) (h : (dvalX C d ⟨fr, hp⟩).pre) :
    (dvalX C d ⟨fr, hp⟩).hp = hp ∧ ∀ hp2, (dvalX C d ⟨fr, hp2⟩).pre ∧ (dvalX C d ⟨fr, hp2⟩).val = (dvalX C d ⟨fr, hp⟩).val ∧ (dvalX C d ⟨fr, hp2⟩).hp = hp2 := by
  cases d
  case im d => exact ⟨rfl, fun hp2 => ⟨h, rfl, rfl⟩⟩
  case rd d => cases hk
  case rz z d => cases hk
  case to b d => cases hk
  case al d => cases hk
  case rk lo d => cases hk
  case tk b lo d => cases hk
  case fz d => cases hk
  case ei f xs => cases hk
  all_goals exact kind0 C _ fr hp hk h

theorem kind1 (C : Orc) (d : DOp) (fr : List (Nat × DV)) (hp hp2 : List DObj) (hf : Fz hp hp2) (hk : d.kind = 1) :
    (dval C d ⟨fr, hp2⟩).pre = (dval C d ⟨fr, hp⟩).pre ∧ (dval C d ⟨fr, hp2⟩).val = (dval C d ⟨fr, hp⟩).val ∧ ((dval C d ⟨fr, hp⟩).pre → (dval C d ⟨fr, hp⟩).hp = hp ∧ (dval C d ⟨fr, hp2⟩).hp = hp2) := by
  cases d <;> simp only [DOp.kind, reduceCtorEq, Nat.reduceEqDiff] at hk <;> simp only [dval]
  case b2s x => rw [hf.elems]; simp
  case len x => split <;> simp [hf.alive, no]
  case snil x => split <;> simp [hf.alive, no]
  case load s x => rw [hf.cells]; simp
  case peq n x y => split <;> simp [hf.alive]
  case faddr o x => split <;> simp [hf.alive, no]
  case nilck x => split <;> simp [hf.alive, no]
  case iaddrA n z x i => split <;> simp [hf.alive, no]
  case iaddr z x i =>
    split
    · simp
    · rename_i hh L off len k n e1 e2
      rcases hf.get hh with ⟨h1, h2⟩ | ⟨o, o', h1, h2, hz, he, hd, hk⟩
      · simp [h1, h2, no]
      · simp [h1, h2, hz, he, hd]
    · simp [no]
  case slice z x a b c =>
    unfold dSlice
    split
    · simp
    · rename_i hh L off len e1
      rcases hf.get hh with ⟨h1, h2⟩ | ⟨o, o', h1, h2, hz, he, hd, hk⟩
      · simp [h1, h2]
      · simp [h1, h2, hz, he, hd]
    · simp
    · simp

theorem Fz.freezeAt (hp : List DObj) (h : Nat) (hk : ∀ o, hp[h]? = some o → o.k = .imm ∨ o.k = .frz) : Fz hp (freezeAt hp h) := by
  unfold Nk.freezeAt
  cases hh : hp[h]? with
  | none => exact .refl _
  | some o =>
    refine ⟨by simp, fun i o' ho' => ?_⟩
    by_cases hi : i = h
    · subst hi
      rw [hh] at ho'; injection ho' with e; subst e
      refine ⟨{ o with k := .frz }, by simp [lt_of_some hh], rfl, rfl, ?_⟩
      rcases hk o hh with e | e
      · exact .inr ⟨e, rfl⟩
      · exact .inl e.symm
    · exact ⟨o', by dsimp only; rw [List.getElem?_set_ne (Ne.symm hi)]; exact ho', rfl, rfl, .inl rfl⟩

theorem fz1_Fz (hp : List DObj) (d : DV) (h : (fz1 hp d).pre) : Fz hp (fz1 hp d).hp := by
  unfold fz1 at h ⊢
  split at h
  · rename_i h' L off len
    refine Fz.freezeAt hp h' fun o ho => ?_
    simp only [elemsOf, ho] at h
    split at h
    · rename_i hk; exact hk
    · exact h.elim
  · exact .refl _
  · exact .refl _
  · split at h
    · rename_i hi; rw [if_pos hi]; exact .refl _
    · exact h.elim

theorem fzL_Fz : ∀ (ds : List DV) (hp : List DObj), (fzL hp ds).pre → Fz hp (fzL hp ds).hp
  | [], _, _ => .refl _
  | d :: ds, hp, h => (fz1_Fz hp d h.1).trans (fzL_Fz ds _ h.2)

theorem fzV_Fz (hp : List DObj) (d : DV) (h : (fzV hp d).pre) : Fz hp (fzV hp d).hp := by
  unfold fzV at h ⊢
  split at h
  · exact fzL_Fz _ _ h
  · exact fz1_Fz _ _ h

theorem fzVs_Fz : ∀ (ds : List DV) (hp : List DObj), (fzVs hp ds).pre → Fz hp (fzVs hp ds).hp
  | [], _, _ => .refl _
  | d :: ds, hp, h => (fzV_Fz hp d h.1).trans (fzVs_Fz ds _ h.2)

theorem callP_Fz (C : Orc) (hp : List DObj) (f : FuncId) (args : List DV) (h : (dCallP C hp f args).pre) : Fz hp (dCallP C hp f args).hp := by
  unfold dCallP at h ⊢
  dsimp only at h ⊢
  split at h
  · rename_i hn; rw [if_pos hn]; exact .refl _
  · rename_i hn; rw [if_neg hn]; exact fzVs_Fz _ _ h.1

theorem kind2 (C : Orc) (d : DOp) (fr : List (Nat × DV)) (hp : List DObj) (hk : d.kind = 2) (h : (dval C d ⟨fr, hp⟩).pre) : Fz hp (dval C d ⟨fr, hp⟩).hp := by
  cases d <;> simp only [DOp.kind, reduceCtorEq, Nat.reduceEqDiff] at hk <;> simp only [dval] at h ⊢
  case callP f xs => exact callP_Fz C hp f _ h
  case mvf x => exact fzV_Fz _ _ h
  case callvP f xs =>
    split at h
    · exact callP_Fz C hp _ _ h
    · exact callP_Fz C hp _ _ h
    · exact h.elim
/-- The heap, but for what has been frozen, and with more behind it. -/
def Ex (hp hp' : List DObj) : Prop := ∃ hp1 t, Fz hp hp1 ∧ hp' = hp1 ++ t

theorem fzLL_Fz : ∀ (ds : List (List DV)) (hp : List DObj), (fzLL hp ds).pre → Fz hp (fzLL hp ds).hp
  | [], _, _ => .refl _
  | d :: ds, hp, h => (fzL_Fz d hp h.1).trans (fzLL_Fz ds _ h.2)

theorem kind45 (C : Orc) (d : DOp) (fr : List (Nat × DV)) (hp : List DObj) (hk : d.kind = 4 ∨ d.kind = 5) (h : (dval C d ⟨fr, hp⟩).pre) : Ex hp (dval C d ⟨fr, hp⟩).hp := by
  cases d <;> simp only [DOp.kind, reduceCtorEq, Nat.reduceEqDiff, or_self, or_false, false_or] at hk <;> simp only [dval] at h ⊢
  case alloc z => exact ⟨hp, _, .refl _, rfl⟩
  case box x => exact ⟨hp, _, .refl _, rfl⟩
  case make z a b =>
    split at h
    · exact ⟨hp, _, .refl _, rfl⟩
    · exact h.elim
  case mkown z x =>
    split at h
    · exact ⟨hp, _, .refl _, rfl⟩
    · exact h.elim
  case bslice imm z ps =>
    split at h
    · rename_i e; rw [if_pos e]; exact ⟨_, [], fzLL_Fz _ _ h.2.1, (List.append_nil _).symm⟩
    · rename_i e; rw [if_neg e]; exact ⟨_, _, fzLL_Fz _ _ h.2.1, rfl⟩

theorem fz1_ext (t : List DObj) {hp : List DObj} {d : DV} (h : (fz1 hp d).pre) : fz1 (hp ++ t) d = ⟨(fz1 hp d).pre, (fz1 hp d).val, (fz1 hp d).hp ++ t⟩ := by
  unfold fz1 at h ⊢
  split at h
  · rename_i i L off len
    have he := elems_ext t h
    simp only [he, Res.mk.injEq, true_and]
    unfold Nk.freezeAt
    cases hi : hp[i]? with
    | none => simp [elemsOf, hi] at h
    | some o => simp only [get_ext hi]; rw [List.set_append_left _ _ (List.getElem?_eq_some_iff.1 hi).1]
  · rfl
  · rfl
  · split at h
    · rename_i e; simp only [if_pos e]
    · exact h.elim

theorem fzL_ext (t : List DObj) : ∀ {hp : List DObj} {ds : List DV}, (fzL hp ds).pre → fzL (hp ++ t) ds = ⟨(fzL hp ds).pre, (fzL hp ds).vals, (fzL hp ds).hp ++ t⟩
  | _, [], _ => rfl
  | hp, d :: ds, h => by
    simp only [fzL] at h ⊢
    rw [fz1_ext t h.1]
    simp only
    rw [fzL_ext t h.2]

theorem fzV_ext (t : List DObj) {hp : List DObj} {d : DV} (h : (fzV hp d).pre) : fzV (hp ++ t) d = ⟨(fzV hp d).pre, (fzV hp d).val, (fzV hp d).hp ++ t⟩ := by
  unfold fzV at h ⊢
  split at h
  · simp only at h ⊢
    rw [fzL_ext t h]
  · rw [fz1_ext t h]

theorem fzVs_ext (t : List DObj) : ∀ {hp : List DObj} {ds : List DV}, (fzVs hp ds).pre → fzVs (hp ++ t) ds = ⟨(fzVs hp ds).pre, (fzVs hp ds).vals, (fzVs hp ds).hp ++ t⟩
  | _, [], _ => rfl
  | hp, d :: ds, h => by
    simp only [fzVs] at h ⊢
    rw [fzV_ext t h.1]
    simp only
    rw [fzVs_ext t h.2]

theorem capV_ext (t : List DObj) {hp : List DObj} {d : DV} (h : (capV hp d).1) : capV (hp ++ t) d = capV hp d := by
  unfold capV at h ⊢
  split at h
  · rename_i k L i j
    cases hk : hp[k]? with
    | none => simp [hk] at h
    | some o => simp only [get_ext hk]
  · rfl
theorem capVL_ext (t : List DObj) : ∀ {hp : List DObj} {ds : List DV}, (capVL hp ds).1 → capVL (hp ++ t) ds = capVL hp ds
  | _, [], _ => rfl
  | hp, d :: ds, h => by
    simp only [capVL] at h ⊢
    rw [capV_ext t h.1, capVL_ext t h.2]
theorem capVL_all {hp : List DObj} : ∀ {ds : List DV}, ds.all DV.immB = true → capVL hp ds = (True, ds)
  | [], _ => rfl
  | d :: ds, h => by
    simp only [List.all_cons, Bool.and_eq_true] at h
    have e : capV hp d = (True, d) := by
      unfold capV
      cases d <;> first | (simp [DV.immB] at h; done) | simp [h.1]
    simp only [capVL, e, capVL_all h.2, and_self]
theorem Fz.capV {hp hp' : List DObj} (hf : Fz hp hp') (d : DV) : Nk.capV hp' d = Nk.capV hp d := by
  unfold Nk.capV
  split
  · rename_i k L i j
    rcases hf.get k with ⟨h1, h2⟩ | ⟨o, o', h1, h2, h3, h4, h5, h6⟩
    · rw [h1, h2]
    · rw [h1, h2]
      have hd : (o'.k ≠ .dead) = (o.k ≠ .dead) := propext (not_congr h5)
      simp only [hd, h4]
  · rfl
theorem Fz.capVL {hp hp' : List DObj} (hf : Fz hp hp') : ∀ ds : List DV, Nk.capVL hp' ds = Nk.capVL hp ds
  | [] => rfl
  | d :: ds => by simp only [Nk.capVL, hf.capV d, Fz.capVL hf ds]

theorem view1_ext (t : List DObj) {hp : List DObj} {d : DV} (h : (view1 hp d).1) : view1 (hp ++ t) d = view1 hp d := by
  unfold view1 at h ⊢
  split at h
  · rename_i i L off len
    simp only [elems_ext t h]
  · rfl
  · simp only [capVL_ext t h]
  · rfl

theorem viewL_ext (t : List DObj) : ∀ {hp : List DObj} {ds : List DV}, (viewL hp ds).1 → viewL (hp ++ t) ds = viewL hp ds
  | _, [], _ => rfl
  | hp, d :: ds, h => by
    simp only [viewL] at h ⊢
    rw [view1_ext t h.1, viewL_ext t h.2]

theorem viewV_ext (t : List DObj) {hp : List DObj} {d : DV} (h : (viewV hp d).1) : viewV (hp ++ t) d = viewV hp d := by
  unfold viewV at h ⊢
  split at h
  · simp only [viewL_ext t h]
  · exact view1_ext t h

theorem viewVs_ext (t : List DObj) : ∀ {hp : List DObj} {ds : List DV}, (viewVs hp ds).1 → viewVs (hp ++ t) ds = viewVs hp ds
  | _, [], _ => rfl
  | hp, d :: ds, h => by
    simp only [viewVs] at h ⊢
    rw [viewV_ext t h.1, viewVs_ext t h.2]

/-- Where all may be frozen all may be seen, and it is the same. -/
theorem view1_of_fz {hp : List DObj} {d : DV} (h : (fz1 hp d).pre) : view1 hp d = (True, (fz1 hp d).val) := by
  unfold fz1 view1 at *
  split at h
  · exact congrArg (·, _) (eq_true h)
  · rfl
  · simp only [capVL_all h]
  · split at h
    · rename_i e; simp only [if_pos e]
    · exact h.elim

theorem viewL_of_fz : ∀ {ds : List DV} {hp : List DObj}, (fzL hp ds).pre → viewL hp ds = (True, (fzL hp ds).vals)
  | [], _, _ => rfl
  | d :: ds, hp, h => by
    simp only [fzL, viewL] at h ⊢
    rw [view1_of_fz h.1]
    have hv : viewL hp ds = viewL (fz1 hp d).hp ds := by
      have hf := fz1_Fz hp d h.1
      generalize (fz1 hp d).hp = hp' at hf
      clear h
      have h1 : ∀ x, view1 hp' x = view1 hp x := fun x => by unfold view1; rw [hf.elems]; cases x <;> simp only [hf.capVL]
      induction ds with
      | nil => rfl
      | cons x xs ih => simp only [viewL, h1, ih]
    rw [hv, viewL_of_fz h.2]
    simp

theorem viewV_of_fz {hp : List DObj} {d : DV} (h : (fzV hp d).pre) : viewV hp d = (True, (fzV hp d).val) := by
  unfold fzV viewV at *
  split at h
  · simp only [viewL_of_fz h]
  · exact view1_of_fz h

theorem viewVs_of_fz : ∀ {ds : List DV} {hp : List DObj}, (fzVs hp ds).pre → viewVs hp ds = (True, (fzVs hp ds).vals)
  | [], _, _ => rfl
  | d :: ds, hp, h => by
    simp only [fzVs, viewVs] at h ⊢
    rw [viewV_of_fz h.1]
    have hv : viewVs hp ds = viewVs (fzV hp d).hp ds := by
      have hf := fzV_Fz hp d h.1
      generalize (fzV hp d).hp = hp' at hf
      clear h
      have h1 : ∀ x, view1 hp' x = view1 hp x := fun x => by unfold view1; rw [hf.elems]; cases x <;> simp only [hf.capVL]
      have h2 : ∀ xs, viewL hp' xs = viewL hp xs := fun xs => by
        induction xs with
        | nil => rfl
        | cons x xs ih => simp only [viewL, h1, ih]
      have h3 : ∀ x, viewV hp' x = viewV hp x := fun x => by unfold viewV; split <;> simp only [h1, h2]
      induction ds with
      | nil => rfl
      | cons x xs ih => simp only [viewVs, h3, ih]
    rw [hv, viewVs_of_fz h.2]
    simp

theorem callP_ext (C : Orc) (t : List DObj) {hp : List DObj} {f : FuncId} {args : List DV} (h : (dCallP C hp f args).pre) :
    (dCallP C (hp ++ t) f args).pre ∧ (dCallP C (hp ++ t) f args).val = (dCallP C hp f args).val ∧ (dCallP C (hp ++ t) f args).hp = (dCallP C hp f args).hp ++ t := by
  unfold dCallP at h ⊢
  dsimp only at h ⊢
  split at h
  · rename_i hn
    have hv := viewVs_ext t h.1
    rw [if_pos hn]
    simp only [hv, if_pos hn]
    exact ⟨h, trivial, trivial⟩
  · rename_i hn
    have hv : viewVs (hp ++ t) args = viewVs hp args := viewVs_ext t (by rw [viewVs_of_fz h.1]; trivial)
    rw [if_neg hn]
    simp only [hv, if_neg hn, fzVs_ext t h.1]
    exact ⟨h, trivial, trivial⟩

theorem kind2e (C : Orc) (d : DOp) (fr : List (Nat × DV)) (hp t : List DObj) (hk : d.kind = 2) (h : (dval C d ⟨fr, hp⟩).pre) :
    (dval C d ⟨fr, hp ++ t⟩).pre ∧ (dval C d ⟨fr, hp ++ t⟩).val = (dval C d ⟨fr, hp⟩).val ∧ (dval C d ⟨fr, hp ++ t⟩).hp = (dval C d ⟨fr, hp⟩).hp ++ t := by
  cases d <;> simp only [DOp.kind, reduceCtorEq, Nat.reduceEqDiff] at hk <;> simp only [dval] at h ⊢
  case callP f xs => exact callP_ext C t h
  case mvf x => rw [fzV_ext t h]; exact ⟨h, rfl, rfl⟩
  case callvP f xs =>
    split at h
    · exact callP_ext C t h
    · exact callP_ext C t h
    · exact h.elim

theorem kind4e (C : Orc) (d : DOp) (fr : List (Nat × DV)) (hp hp2 : List DObj) (hl : hp2.length = hp.length) (hk : d.kind = 4) (h : (dval C d ⟨fr, hp⟩).pre) :
    (dval C d ⟨fr, hp2⟩).pre ∧ (dval C d ⟨fr, hp2⟩).val = (dval C d ⟨fr, hp⟩).val ∧ ∃ t, (dval C d ⟨fr, hp⟩).hp = hp ++ t ∧ (dval C d ⟨fr, hp2⟩).hp = hp2 ++ t := by
  cases d <;> simp only [DOp.kind, reduceCtorEq, Nat.reduceEqDiff] at hk <;> simp only [dval] at h ⊢
  case alloc z => rw [hl]; exact ⟨trivial, rfl, _, rfl, rfl⟩
  case box x => rw [hl]; exact ⟨h, rfl, _, rfl, rfl⟩
  case make z a b =>
    split at h
    · simp only [hl]; exact ⟨h, trivial, _, rfl, rfl⟩
    · exact h.elim
  case mkown z x =>
    split at h
    · simp only [hl]; exact ⟨trivial, trivial, _, rfl, rfl⟩
    · exact h.elim
end Go.Nk
