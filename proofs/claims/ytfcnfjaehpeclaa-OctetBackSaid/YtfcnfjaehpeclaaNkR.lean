/- Regions that draw their order: the order of the text serves for every order, where a check says so. -/
import Derived.Test.YtfcnfjaehpeclaaNkP
namespace Go.Nk
open Go.RowKit

def DA.sl : DA → List Nat
  | .t n => [n]
  | .c _ => []

def slL (l : List DA) : List Nat := l.flatMap DA.sl
def slO (l : Option DA) : List Nat := match l with | some x => x.sl | none => []

/-- The slots that an operation looks at. -/
def DOp.sl : DOp → List Nat
  | .mv x | .mvf x | .mkown _ x | .un _ x | .conv _ x | .s2b x | .b2s x | .same x | .snil _ x | .len x | .lenS x | .load _ x | .faddr _ x | .field _ _ x | .box x | .extract _ x | .nilck x => x.sl
  | .pick a b c => a.sl ++ (b.sl ++ c.sl)
  | .bin _ x y | .beq _ x y | .peq _ x y | .aeq _ x y | .minmax _ x y | .store _ x y | .iaddr _ x y | .iaddrA _ _ x y | .index x y | .make _ x y | .append _ x y => x.sl ++ y.sl
  | .slice _ x a b c => x.sl ++ (slO a ++ (slO b ++ slO c))
  | .sliceS x a b => x.sl ++ (slO a ++ slO b)
  | .bslice _ _ ps => ps.flatMap slO
  | .build _ ps => ps.flatMap fun p => p.2.2.sl
  | .alloc _ => []
  | .mkfun _ xs | .callP _ xs | .callH _ xs => slL xs
  | .callvP f xs | .callvH f xs => f.sl ++ slL xs

/-- 0: looks at no heap; 1: reads it; 2: may freeze what is there; 3: other. -/
def DOp.kind : DOp → Nat
  | .mv _ | .pick .. | .bin .. | .beq .. | .peq .. | .aeq .. | .un .. | .conv .. | .s2b _ | .same _ | .lenS _ | .minmax .. | .field .. | .index .. | .sliceS .. | .build .. | .extract .. | .mkfun .. => 0
  | .b2s _ | .snil .. | .len _ | .load .. | .faddr .. | .iaddr .. | .iaddrA .. | .slice .. | .nilck _ => 1
  | .callP .. | .callvP .. | .mvf _ => 2
  | _ => 3

def DOper.looks (d : DOper) : List Nat := d.op.sl ++ (match d.guard with | some (g, _) => [g] | none => [])

def apartD (x y : DOper) : Bool :=
  (match x.dst with | some d => !(y.looks).contains d && y.dst != some d | none => true) &&
  (match y.dst with | some d => !(x.looks).contains d | none => true)

def kindsD (a b : Nat) : Bool := a == 0 || b == 0 || (a == 1 && b == 1) || (a == 1 && b == 2) || (a == 2 && b == 1)

def commD (x y : DOper) : Bool := apartD x y && kindsD x.op.kind y.op.kind

theorem ev_congr {fr fr' : List (Nat × DV)} {x : DA} (h : ∀ n ∈ x.sl, get n fr = get n fr') : x.ev fr = x.ev fr' := by
  cases x with
  | t n => exact h n (by simp [DA.sl])
  | c d => rfl

theorem evL_congr {fr fr' : List (Nat × DV)} {xs : List DA} (h : ∀ n ∈ slL xs, get n fr = get n fr') : xs.map (·.ev fr) = xs.map (·.ev fr') :=
  List.map_congr_left fun x hx => ev_congr fun n hn => h n (List.mem_flatMap.2 ⟨x, hx, hn⟩)

theorem evO_congr {fr fr' : List (Nat × DV)} {x : Option DA} (h : ∀ n ∈ slO x, get n fr = get n fr') : x.map (·.ev fr) = x.map (·.ev fr') := by
  cases x with
  | none => rfl
  | some x => exact congrArg some (ev_congr h)

theorem build_congr {fr fr' : List (Nat × DV)} : ∀ (ps : List (Nat × Nat × DA)) (cells : List DV), (∀ n ∈ ps.flatMap fun p => p.2.2.sl, get n fr = get n fr') → buildCells cells fr ps = buildCells cells fr' ps
  | [], cells, _ => rfl
  | (off, n, x) :: ps, cells, h => by
    have hx : x.ev fr = x.ev fr' := ev_congr fun n hn => h n (by simp [hn])
    simp only [buildCells, hx]
    rw [build_congr ps _ fun n hn => h n (by simp only [List.flatMap_cons, List.mem_append]; exact .inr hn)]

theorem dval_congr (C : Orc) (d : DOp) {fr fr' : List (Nat × DV)} (hp : List DObj) (h : ∀ n ∈ d.sl, get n fr = get n fr') : dval C d ⟨fr, hp⟩ = dval C d ⟨fr', hp⟩ := by
  cases d
  case bslice imm zero ps =>
    have e : ∀ p ∈ ps, p.map (·.ev fr) = p.map (·.ev fr') := fun p hp => evO_congr fun n hn => h n (List.mem_flatMap.2 ⟨p, hp, hn⟩)
    have e1 : ps.map (bRow fr zero) = ps.map (bRow fr' zero) := by
      refine List.map_congr_left fun p hp => ?_
      have := e p hp
      cases p with
      | none => rfl
      | some x => simp at this; simp [bRow, this]
    have e2 : ps.all (bU fr zero) = ps.all (bU fr' zero) := by
      have : ∀ p ∈ ps, bU fr zero p = bU fr' zero p := fun p hp => by
        have := e p hp
        cases p with
        | none => rfl
        | some x => simp at this; simp [bU, this]
      rw [Bool.eq_iff_iff, List.all_eq_true, List.all_eq_true]
      exact ⟨fun hh p hp => (this p hp) ▸ hh p hp, fun hh p hp => (this p hp).symm ▸ hh p hp⟩
    simp only [dval, e1, e2]
  case build zero ps => simp only [dval]; rw [build_congr ps zero h]
  case mkfun f xs => simp only [dval]; rw [evL_congr h]
  case callP f xs => simp only [dval]; rw [evL_congr h]
  case callH f xs => simp only [dval]; rw [evL_congr h]
  case callvP f xs =>
    have h1 : f.ev fr = f.ev fr' := ev_congr fun n hn => h n (by simp [DOp.sl, hn])
    simp only [dval, h1]; rw [evL_congr fun n hn => h n (by simp [DOp.sl, hn])]
  case callvH f xs =>
    have h1 : f.ev fr = f.ev fr' := ev_congr fun n hn => h n (by simp [DOp.sl, hn])
    simp only [dval, h1]; rw [evL_congr fun n hn => h n (by simp [DOp.sl, hn])]
  case slice z x a b c =>
    have h1 : x.ev fr = x.ev fr' := ev_congr fun n hn => h n (by simp [DOp.sl, hn])
    simp only [dval, h1]
    rw [evO_congr fun n hn => h n (by simp [DOp.sl, hn]), evO_congr (x := b) fun n hn => h n (by simp [DOp.sl, hn]), evO_congr (x := c) fun n hn => h n (by simp [DOp.sl, hn])]
  case sliceS x a b =>
    have h1 : x.ev fr = x.ev fr' := ev_congr fun n hn => h n (by simp [DOp.sl, hn])
    simp only [dval, h1]
    rw [evO_congr fun n hn => h n (by simp [DOp.sl, hn]), evO_congr (x := b) fun n hn => h n (by simp [DOp.sl, hn])]
  case pick a b c =>
    have h1 : a.ev fr = a.ev fr' := ev_congr fun n hn => h n (by simp [DOp.sl, hn])
    have h2 : b.ev fr = b.ev fr' := ev_congr fun n hn => h n (by simp [DOp.sl, hn])
    have h3 : c.ev fr = c.ev fr' := ev_congr fun n hn => h n (by simp [DOp.sl, hn])
    simp only [dval, h1, h2, h3]
  case alloc zero => rfl
  all_goals
    first
    | (rename_i x y; have h1 : x.ev fr = x.ev fr' := ev_congr fun n hn => h n (by simp [DOp.sl, hn]); have h2 : y.ev fr = y.ev fr' := ev_congr fun n hn => h n (by simp [DOp.sl, hn]); simp only [dval, h1, h2]; done)
    | (rename_i x; have h1 : x.ev fr = x.ev fr' := ev_congr fun n hn => h n (by simp [DOp.sl, hn]); simp only [dval, h1]; done)

/-- The same heap, but for what has been frozen. -/
def Fz (hp hp' : List DObj) : Prop :=
  hp.length = hp'.length ∧ ∀ (h : Nat) (o : DObj), hp[h]? = some o → ∃ o', hp'[h]? = some o' ∧ o'.z = o.z ∧ o'.es = o.es ∧ (o'.k = o.k ∨ (o.k = .imm ∧ o'.k = .frz))

theorem Fz.refl (hp : List DObj) : Fz hp hp := ⟨rfl, fun _ o ho => ⟨o, ho, rfl, rfl, .inl rfl⟩⟩
theorem Fz.trans {a b c : List DObj} (h : Fz a b) (k : Fz b c) : Fz a c := ⟨h.1.trans k.1, fun i o ho => by
  obtain ⟨o', h1, h2, h3, h4⟩ := h.2 i o ho
  obtain ⟨o'', k1, k2, k3, k4⟩ := k.2 i o' h1
  refine ⟨o'', k1, k2.trans h2, k3.trans h3, ?_⟩
  rcases h4 with h4 | ⟨h4, h5⟩
  · rcases k4 with k4 | ⟨k4, k5⟩
    · exact .inl (k4.trans h4)
    · exact .inr ⟨h4 ▸ k4, k5⟩
  · rcases k4 with k4 | ⟨k4, k5⟩
    · exact .inr ⟨h4, k4.trans h5⟩
    · rw [h5] at k4; cases k4⟩

theorem Fz.get {hp hp' : List DObj} (h : Fz hp hp') (i : Nat) : (hp[i]? = none ∧ hp'[i]? = none) ∨ ∃ o o', hp[i]? = some o ∧ hp'[i]? = some o' ∧ o'.z = o.z ∧ o'.es = o.es ∧ (o'.k = .dead ↔ o.k = .dead) ∧ (o'.k = .imm ∨ o'.k = .frz ↔ o.k = .imm ∨ o.k = .frz) := by
  cases hi : hp[i]? with
  | none =>
    left
    refine ⟨rfl, ?_⟩
    rw [List.getElem?_eq_none_iff] at hi ⊢
    have := h.1; omega
  | some o =>
    obtain ⟨o', h1, h2, h3, h4⟩ := h.2 i o hi
    refine .inr ⟨o, o', rfl, h1, h2, h3, ?_, ?_⟩
    · rcases h4 with h4 | ⟨h4, h5⟩
      · rw [h4]
      · rw [h4, h5]; simp
    · rcases h4 with h4 | ⟨h4, h5⟩
      · rw [h4]
      · rw [h4, h5]; simp

theorem Fz.alive {hp hp' : List DObj} (h : Fz hp hp') (i L : Nat) : alive hp' i L ↔ alive hp i L := by
  unfold Nk.alive
  rcases h.get i with ⟨h1, h2⟩ | ⟨o, o', h1, h2, hz, he, hd, hk⟩
  · rw [h1, h2]
  · rw [h1, h2]; simp only [he, ne_eq, hd]

theorem Fz.elems {hp hp' : List DObj} (h : Fz hp hp') (d : DV) : elemsOf hp' d = elemsOf hp d := by
  unfold elemsOf
  split <;> try rfl
  rename_i i L off len
  rcases h.get i with ⟨h1, h2⟩ | ⟨o, o', h1, h2, hz, he, hd, hk⟩
  · rw [h1, h2]
  · rw [h1, h2]; simp only [he]
    by_cases h3 : o.k = .imm ∨ o.k = .frz
    · rw [if_pos h3, if_pos (hk.2 h3)]
    · rw [if_neg h3, if_neg (fun e => h3 (hk.1 e))]

theorem Fz.cells {hp hp' : List DObj} (h : Fz hp hp') (d : DV) : cellsAt hp' d = cellsAt hp d := by
  unfold cellsAt
  split <;> try rfl
  rename_i i L r j
  rcases h.get i with ⟨h1, h2⟩ | ⟨o, o', h1, h2, hz, he, hd, hk⟩
  · rw [h1, h2]
  · rw [h1, h2]; simp only [he]
    by_cases h3 : o.k = .dead
    · rw [if_pos h3, if_pos (hd.2 h3)]
    · rw [if_neg h3, if_neg (fun e => h3 (hd.1 e))]

theorem kind0 (C : Orc) (d : DOp) (fr : List (Nat × DV)) (hp : List DObj) (hk : d.kind = 0) (h : (dval C d ⟨fr, hp⟩).pre) :
    (dval C d ⟨fr, hp⟩).hp = hp ∧ ∀ hp2, (dval C d ⟨fr, hp2⟩).pre ∧ (dval C d ⟨fr, hp2⟩).val = (dval C d ⟨fr, hp⟩).val ∧ (dval C d ⟨fr, hp2⟩).hp = hp2 := by
  cases d <;> simp only [DOp.kind, reduceCtorEq] at hk <;> simp only [dval] at h ⊢
  case pick a b c => split at h <;> simp_all [no]
  case conv k x => split at h <;> simp_all [no]
  case s2b x => split at h <;> simp_all [no]
  case same x => split at h <;> simp_all [no]
  case lenS x => split at h <;> simp_all [no]
  case minmax m x y => split at h <;> simp_all [no]
  case field o s x => split at h <;> simp_all [no]
  case index x y => split at h <;> simp_all [no]
  case extract i x => split at h <;> simp_all [no]
  all_goals first | (simp; done) | (simp only [true_and, and_true, forall_const]; exact h) | exact ⟨rfl, fun _ => ⟨h, rfl, rfl⟩⟩ | exact ⟨trivial, fun _ => ⟨h, trivial, trivial⟩⟩

theorem kind1 (C : Orc) (d : DOp) (fr : List (Nat × DV)) (hp hp2 : List DObj) (hf : Fz hp hp2) (hk : d.kind = 1) :
    (dval C d ⟨fr, hp2⟩).pre = (dval C d ⟨fr, hp⟩).pre ∧ (dval C d ⟨fr, hp2⟩).val = (dval C d ⟨fr, hp⟩).val ∧ ((dval C d ⟨fr, hp⟩).pre → (dval C d ⟨fr, hp⟩).hp = hp ∧ (dval C d ⟨fr, hp2⟩).hp = hp2) := by
  cases d <;> simp only [DOp.kind, reduceCtorEq, Nat.reduceEqDiff] at hk <;> simp only [dval]
  case b2s x => rw [hf.elems]; simp
  case len x => split <;> simp [hf.alive, no]
  case snil x => split <;> simp [hf.alive, no]
  case load s x => rw [hf.cells]; simp
  case faddr o x => split <;> simp [hf.alive, no]
  case nilck x => split <;> simp [hf.alive, no]
  case iaddrA n z x i => split <;> simp [hf.alive, no]
  case iaddr z x i =>
    split
    · simp
    · rename_i hh L off len k n e1 e2
      rcases hf.get hh with ⟨h1, h2⟩ | ⟨o, o', h1, h2, hz, he, hd, hk⟩
      · simp [h1, h2, no]
      · simp [h1, h2, hz, he, hd]
    · simp [no]
  case slice z x a b c =>
    unfold dSlice
    split
    · simp
    · rename_i hh L off len e1
      rcases hf.get hh with ⟨h1, h2⟩ | ⟨o, o', h1, h2, hz, he, hd, hk⟩
      · simp [h1, h2]
      · simp [h1, h2, hz, he, hd]
    · simp
    · simp

theorem Fz.freezeAt (hp : List DObj) (h : Nat) (hk : ∀ o, hp[h]? = some o → o.k = .imm ∨ o.k = .frz) : Fz hp (freezeAt hp h) := by
  unfold Nk.freezeAt
  cases hh : hp[h]? with
  | none => exact .refl _
  | some o =>
    refine ⟨by simp, fun i o' ho' => ?_⟩
    by_cases hi : i = h
    · subst hi
      rw [hh] at ho'; injection ho' with e; subst e
      refine ⟨{ o with k := .frz }, by simp [lt_of_some hh], rfl, rfl, ?_⟩
      rcases hk o hh with e | e
      · exact .inr ⟨e, rfl⟩
      · exact .inl e.symm
    · exact ⟨o', by dsimp only; rw [List.getElem?_set_ne (Ne.symm hi)]; exact ho', rfl, rfl, .inl rfl⟩

theorem fz1_Fz (hp : List DObj) (d : DV) (h : (fz1 hp d).pre) : Fz hp (fz1 hp d).hp := by
  unfold fz1 at h ⊢
  split at h
  · rename_i h' L off len
    refine Fz.freezeAt hp h' fun o ho => ?_
    simp only [elemsOf, ho] at h
    split at h
    · rename_i hk; exact hk
    · exact h.elim
  · exact .refl _
  · exact .refl _
  · split at h
    · rename_i hi; rw [if_pos hi]; exact .refl _
    · exact h.elim

theorem fzL_Fz : ∀ (ds : List DV) (hp : List DObj), (fzL hp ds).pre → Fz hp (fzL hp ds).hp
  | [], hp, _ => .refl _
  | d :: ds, hp, h => (fz1_Fz hp d h.1).trans (fzL_Fz ds _ h.2)

theorem fzV_Fz (hp : List DObj) (d : DV) (h : (fzV hp d).pre) : Fz hp (fzV hp d).hp := by
  unfold fzV at h ⊢
  split at h
  · exact fzL_Fz _ _ h
  · exact fz1_Fz _ _ h

theorem fzVs_Fz : ∀ (ds : List DV) (hp : List DObj), (fzVs hp ds).pre → Fz hp (fzVs hp ds).hp
  | [], hp, _ => .refl _
  | d :: ds, hp, h => (fzV_Fz hp d h.1).trans (fzVs_Fz ds _ h.2)

theorem callP_Fz (C : Orc) (hp : List DObj) (f : FuncId) (args : List DV) (h : (dCallP C hp f args).pre) : Fz hp (dCallP C hp f args).hp := by
  unfold dCallP at h ⊢
  dsimp only at h ⊢
  split at h
  · rename_i hn; rw [if_pos hn]; exact .refl _
  · rename_i hn; rw [if_neg hn]; exact fzVs_Fz _ _ h.1

theorem kind2 (C : Orc) (d : DOp) (fr : List (Nat × DV)) (hp : List DObj) (hk : d.kind = 2) (h : (dval C d ⟨fr, hp⟩).pre) : Fz hp (dval C d ⟨fr, hp⟩).hp := by
  cases d <;> simp only [DOp.kind, reduceCtorEq, Nat.reduceEqDiff] at hk <;> simp only [dval] at h ⊢
  case callP f xs => exact callP_Fz C hp f _ h
  case mvf x => exact fzV_Fz _ _ h
  case callvP f xs =>
    split at h
    · exact callP_Fz C hp _ _ h
    · exact h.elim
end Go.Nk
