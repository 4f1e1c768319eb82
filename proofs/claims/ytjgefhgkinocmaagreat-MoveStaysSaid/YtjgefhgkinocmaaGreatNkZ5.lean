/- Iterators, loops over what they hand over: the rules for their proofs. -/
import Derived.Test.YtjgefhgkinocmaaGreatNkZ4
set_option linter.all false
namespace Go.Nk
section
variable {C : Orc} {l : Nat} {xs : List (List DV)} {Q : DExit → SI → Prop} {s : DS} {k : Option Nat}

theorem dwpI_skip : dwpI C l xs .skip Q (s, k) = Q .normal (s, k) := rfl
theorem dwpI_ops {dl : List DOper} : dwpI C l xs (.ops false dl) Q (s, k) = dopsI C l xs dl (s, k) (Q .normal) := rfl
theorem dwpI_opsT {dl : List DOper} : dwpI C l xs (.ops true dl) Q (s, k) = dops C dl s (fun s' => Q .normal (s', k)) := rfl
theorem dwpI_opsP {dl : List (Nat × DOper)} : dwpI C l xs (.opsP dl) Q (s, k) = dops C (dl.map (·.2)) s (fun s' => Q .normal (s', k)) := rfl
theorem dwpI_seq {a b : DCode} : dwpI C l xs (.seq a b) Q (s, k) = dwpI C l xs a (thenI (dwpI C l xs b Q) Q) (s, k) := rfl
theorem dwpI_block {id : Nat} {c : DCode} : dwpI C l xs (.block id c) Q (s, k) = dwpI C l xs c (inBlockI id Q) (s, k) := rfl
theorem dwpI_exit {id : Nat} : dwpI C l xs (.exit id) Q (s, k) = Q (.exit id) (s, k) := rfl
theorem dwpI_ret : dwpI C l xs .ret Q (s, k) = Q .ret (s, k) := rfl
theorem dwpI_cond {c : DA} {a b : DCode} {t : Bool} (h : c.ev s.fr = .bool t) : dwpI C l xs (.cond c a b) Q (s, k) = dwpI C l xs (if t then a else b) Q (s, k) := by
  simp only [dwpI, h]
  cases t <;> simp
theorem dwpI_condT {c : DA} {a b : DCode} (h : c.ev s.fr = .bool true) : dwpI C l xs (.cond c a b) Q (s, k) = dwpI C l xs a Q (s, k) := dwpI_cond h
theorem dwpI_condF {c : DA} {a b : DCode} (h : c.ev s.fr = .bool false) : dwpI C l xs (.cond c a b) Q (s, k) = dwpI C l xs b Q (s, k) := dwpI_cond h
theorem dwpI_condI {c : DA} {a b : DCode} {t : Bool} (h : c.ev s.fr = .bool t) (ht : t = true → dwpI C l xs a Q (s, k)) (hf : t = false → dwpI C l xs b Q (s, k)) : dwpI C l xs (.cond c a b) Q (s, k) := by
  rw [dwpI_cond h]
  cases t
  · exact hf rfl
  · exact ht rfl
theorem thenI_normal {next : SI → Prop} : thenI next Q .normal (s, k) = next (s, k) := rfl
theorem thenI_exit {next : SI → Prop} {id : Nat} : thenI next Q (.exit id) (s, k) = Q (.exit id) (s, k) := rfl
theorem thenI_ret {next : SI → Prop} : thenI next Q .ret (s, k) = Q .ret (s, k) := rfl
theorem inBlockI_normal {id : Nat} : inBlockI id Q .normal (s, k) = Q .normal (s, k) := rfl
theorem inBlockI_exit {id i : Nat} : inBlockI id Q (.exit i) (s, k) = if i = id then Q .normal (s, k) else Q (.exit i) (s, k) := rfl
theorem inBlockI_ret {id : Nat} : inBlockI id Q .ret (s, k) = Q .ret (s, k) := rfl
theorem endI_normal {m : Nat} : EndI m .normal (s, k) = (k = none ∨ k = some m) := rfl
theorem endI_ret {m : Nat} : EndI m .ret (s, k) = (k = none ∨ k = some m) := rfl
theorem endI_exit {m id : Nat} : EndI m (.exit id) (s, k) = False := rfl
theorem dopsI_nil {K : SI → Prop} : dopsI C l xs [] (s, k) K = K (s, k) := rfl
theorem dopsI_none {dst : Option Nat} {op : DOp} {r : List DOper} {K : SI → Prop} : dopsI C l xs (⟨dst, op, none⟩ :: r) (s, k) K = drunI C l xs dst op (s, k) (fun s' => dopsI C l xs r s' K) := rfl
theorem dopsI_someT {dst : Option Nat} {op : DOp} {g : Nat} {b : Bool} {r : List DOper} {K : SI → Prop} (h : get g s.fr = .bool b) :
    dopsI C l xs (⟨dst, op, some (g, b)⟩ :: r) (s, k) K = drunI C l xs dst op (s, k) (fun s' => dopsI C l xs r s' K) := by
  simp only [dopsI, dstepI, h, if_true]
theorem dopsI_someF {dst : Option Nat} {op : DOp} {g : Nat} {b : Bool} {r : List DOper} {K : SI → Prop} (h : get g s.fr = .bool (!b)) :
    dopsI C l xs (⟨dst, op, some (g, b)⟩ :: r) (s, k) K = dopsI C l xs r (s.put dst ⟨True, .tup [], s.hp⟩, k) K := by
  simp only [dopsI, dstepI, h]
  cases b <;> simp
theorem dopsI_someN {dst : Option Nat} {op : DOp} {g : Nat} {b : Bool} {r : List DOper} {K : SI → Prop} (h : get g s.fr = .tup []) :
    dopsI C l xs (⟨dst, op, some (g, b)⟩ :: r) (s, k) K = dopsI C l xs r (s.put dst ⟨True, .tup [], s.hp⟩, k) K := by
  simp only [dopsI, dstepI, h]
/-- An operation that hands nothing over. -/
def noYld : DOp → Bool
  | .callvP .. => false
  | _ => true
theorem drunI_val {dst : Option Nat} {op : DOp} {K : SI → Prop} (h : (noYld op && true) = true) : drunI C l xs dst op (s, k) K = ((dvalX C op s).pre ∧ K (s.put dst (dvalX C op s), k)) := by
  have e : yldArgs l s.fr op = none := by cases op <;> first | rfl | simp [noYld] at h
  simp only [drunI, e]
theorem drunI_yld {dst : Option Nat} {g : DA} {args : List DA} {n : Nat} {K : SI → Prop} (h : g.ev s.fr = .yld l) :
    drunI C l xs dst (.callvP g args) (s, some n) K = (xs[n]? = some (args.map (·.ev s.fr)) ∧ (args.map (·.ev s.fr)).all immV = true ∧ K (s.put dst ⟨True, .bool true, s.hp⟩, some (n + 1)) ∧ K (s.put dst ⟨True, .bool false, s.hp⟩, none)) := by
  have e : yldArgs l s.fr (.callvP g args) = some (args.map (·.ev s.fr)) := by simp [yldArgs, h]
  simp only [drunI, e, Option.some.injEq, exists_eq_left']

theorem dwpI_mono {C : Orc} {l : Nat} {xs : List (List DV)} : ∀ (c : DCode) (Q Q' : DExit → SI → Prop) (s : SI), (∀ e s, Q e s → Q' e s) → dwpI C l xs c Q s → dwpI C l xs c Q' s := by
  have hd : ∀ (l : List DOper) (s : DS) (K K' : DS → Prop), (∀ s, K s → K' s) → dops C l s K → dops C l s K' := fun l s K K' h hk => dwp_mono' (h0 := 0) (.ops false l) (fun _ => K) (fun _ => K') s (fun _ => h) hk
  have hr : ∀ (dst : Option Nat) (op : DOp) (s : SI) (K K' : SI → Prop), (∀ s, K s → K' s) → drunI C l xs dst op s K → drunI C l xs dst op s K' := by
    intro dst op s K K' h hk
    unfold drunI at hk ⊢
    split at hk
    · obtain ⟨n, h1, h2, h3, h4, h5⟩ := hk; exact ⟨n, h1, h2, h3, h _ h4, h _ h5⟩
    · exact ⟨hk.1, h _ hk.2⟩
  have hdI : ∀ (dl : List DOper) (s : SI) (K K' : SI → Prop), (∀ s, K s → K' s) → dopsI C l xs dl s K → dopsI C l xs dl s K' := by
    intro dl
    induction dl with
    | nil => intro s K K' h hk; exact h _ hk
    | cons o r ih =>
      intro s K K' h hk
      unfold dopsI dstepI at hk ⊢
      split at hk
      · exact hr _ _ _ _ _ (fun s => ih s _ _ h) hk
      · split at hk
        · split at hk
          · rename_i e; rw [if_pos e]; exact hr _ _ _ _ _ (fun s => ih s _ _ h) hk
          · rename_i e; rw [if_neg e]; exact ih _ _ _ h hk
        · exact ih _ _ _ h hk
        · exact hk.elim
  intro c
  induction c with
  | skip => intro Q Q' s h hq; exact h _ _ hq
  | ops d dl => intro Q Q' s h hq; cases d with
    | false => exact hdI dl s _ _ (h .normal) hq
    | true => exact hd dl s.1 _ _ (fun s' => h .normal (s', s.2)) hq
  | opsP dl => intro Q Q' s h hq; exact hd _ s.1 _ _ (fun s' => h .normal (s', s.2)) hq
  | seq a b iha ihb =>
    intro Q Q' s h hq
    refine iha _ _ s (fun e s' hh => ?_) hq
    cases e with
    | normal => exact ihb _ _ s' h hh
    | exit id => exact h _ _ hh
    | ret => exact h _ _ hh
  | cond x a b iha ihb =>
    intro Q Q' s h hq
    unfold dwpI at hq ⊢
    split at hq
    · exact ⟨fun e => iha _ _ s h (hq.1 e), fun e => ihb _ _ s h (hq.2 e)⟩
    · exact ⟨iha _ _ s h hq.1, ihb _ _ s h hq.2⟩
    · exact hq.elim
  | block id c ih =>
    intro Q Q' s h hq
    refine ih _ _ s (fun e s' hh => ?_) hq
    cases e with
    | normal => exact h _ _ hh
    | exit k =>
      simp only [inBlockI] at hh ⊢
      split at hh
      · rename_i e; rw [if_pos e]; exact h _ _ hh
      · rename_i e; rw [if_neg e]; exact h _ _ hh
    | ret => exact h _ _ hh
  | loop live m c ih =>
    intro Q Q' s h hq
    obtain ⟨I, μ, h2, h3⟩ := hq
    refine ⟨I, μ, h2, fun s' hs' => ih _ _ s' (fun e s'' hh => ?_) (h3 s' hs')⟩
    cases e with
    | normal => exact hh
    | exit id => exact h _ _ hh
    | ret => exact h _ _ hh
  | exit id => intro Q Q' s h hq; exact h _ _ hq
  | ret => intro Q Q' s h hq; exact h _ _ hq
  | opsS seps dl => intro Q Q' s h hq; exact hq.elim
  | gown t off z c ih => intro Q Q' s h hq; exact hq.elim
  | scope c ih => intro Q Q' s h hq; exact hq
  | rangeF live m g ps asg c ihA ih => intro Q Q' s h hq; exact hq.elim
  | rsv c ih => intro Q Q' s h hq; exact hq.elim
  | bad => intro Q Q' s h hq; exact hq.elim
  | cut live m c ih => intro Q Q' s h hq; exact hq.elim

/-- A loop of an iterator, with states named by an index of the proof's own. -/
theorem dwpI_loop {live : List Nat} {m : Option Nat} {c : DCode} {α : Type} (st : α → SI) (Inv : α → Prop) (μ : α → Nat) (a0 : α)
    (hs : (s.cut live m, k) = st a0) (hi : Inv a0)
    (step : ∀ a, Inv a → dwpI C l xs c (thenI (fun s' => ∃ a', (s'.1.cut live m, s'.2) = st a' ∧ Inv a' ∧ μ a' < μ a) Q) (st a)) : dwpI C l xs (.loop live m c) Q (s, k) := by
  classical
  let has : SI → Nat → Prop := fun s n => ∃ a, s = st a ∧ Inv a ∧ μ a = n
  have hleast : ∀ s : SI, ∃ k, (∃ n, has s n) → has s k ∧ ∀ m, has s m → k ≤ m := by
    intro s
    by_cases hx : ∃ n, has s n
    · obtain ⟨n, hn⟩ := hx
      induction n using Nat.strongRecOn with
      | _ n ih =>
        by_cases hy : ∃ m, m < n ∧ has s m
        · obtain ⟨m, h1, h2⟩ := hy
          exact ih m h1 h2
        · exact ⟨n, fun _ => ⟨hn, fun m hm => by
            rcases Nat.lt_or_ge m n with h | h
            · exact absurd ⟨m, h, hm⟩ hy
            · exact h⟩⟩
    · exact ⟨0, fun h => absurd h hx⟩
  obtain ⟨least, hleast⟩ := Classical.axiomOfChoice hleast
  refine ⟨fun s => ∃ n, has s n, least, ⟨μ a0, a0, hs, hi, rfl⟩, fun s' hs' => ?_⟩
  have hl : has s' (least s') := (hleast s' hs').1
  obtain ⟨a, rfl, h1, h2⟩ := hl
  refine dwpI_mono c _ _ _ (fun e s'' hh => ?_) (step a h1)
  cases e with
  | normal =>
    obtain ⟨a', e1, e2, e3⟩ := hh
    have hx : ∃ n, has (s''.1.cut live m, s''.2) n := ⟨μ a', a', e1, e2, rfl⟩
    refine ⟨hx, ?_⟩
    have : least (s''.1.cut live m, s''.2) ≤ μ a' := (hleast _ hx).2 _ ⟨a', e1, e2, rfl⟩
    omega
  | exit id => exact hh
  | ret => exact hh

/-- A loop of an iterator that goes through a list from the front on. -/
theorem dwpI_each {live : List Nat} {m : Option Nat} {c : DCode} {α σ : Type} (li : List α) (st : Nat → σ → SI) (R : Nat → List α → σ → Prop) (a0 : σ)
    (hs : (s.cut live m, k) = st 0 a0) (hi : R 0 li a0)
    (step : ∀ k x r a, k < li.length → li[k]? = some x → li.drop k = x :: r → R k (x :: r) a → dwpI C l xs c (thenI (fun s' => ∃ a', (s'.1.cut live m, s'.2) = st (k + 1) a' ∧ R (k + 1) r a') Q) (st k a))
    (last : ∀ k a, k = li.length → R k [] a → dwpI C l xs c (thenI (fun _ => False) Q) (st k a)) : dwpI C l xs (.loop live m c) Q (s, k) := by
  refine dwpI_loop (fun x : Nat × σ => st x.1 x.2) (fun x => x.1 ≤ li.length ∧ R x.1 (li.drop x.1) x.2) (fun x => li.length - x.1) (0, a0) hs ⟨Nat.zero_le _, hi⟩ fun x hx => ?_
  obtain ⟨k, a⟩ := x
  obtain ⟨hk, hr⟩ := hx
  simp only at hk hr ⊢
  by_cases d : k < li.length
  · obtain ⟨x, e1, e2⟩ := drop_at li d
    rw [e2] at hr
    refine dwpI_mono c _ _ _ (fun e s' hh => ?_) (step k x _ a d e1 e2 hr)
    cases e with
    | normal =>
      obtain ⟨a', h1, h2⟩ := hh
      exact ⟨(k + 1, a'), h1, ⟨d, h2⟩, by simp only; omega⟩
    | exit id => exact hh
    | ret => exact hh
  · have e : k = li.length := by omega
    rw [e, List.drop_length, ← e] at hr
    refine dwpI_mono c _ _ _ (fun e s' hh => ?_) (last k a e hr)
    cases e with
    | normal => exact hh.elim
    | exit id => exact hh
    | ret => exact hh
end

section
variable {C : Orc} {h0 : Nat} {Q : DExit → DS → Prop} {s : DS}
/-- The same, where the function holds a cell of its own: the heap without that cell. -/
theorem dwp_rangeB {live : List Nat} {m : Option Nat} {g : DA} {ps : List Nat} {asg c : DCode} {f : FuncId} {caps caps' : List DV} {ys : List (List DV)} {α σ : Type} (xs : List α) (enc : α → List DV) (hpO : Nat → σ → List DObj) (R : Nat → List α → σ → Prop) (a0 : σ) (fr0 : List (Nat × DV))
    (hm : match m with | some k => h0 ≤ k | none => True) (hg : g.ev s.fr = .clo f caps) (hfr : (s.cut live m).fr = fr0) (hc1 : (capsOf (s.cut live m).hp caps).1) (hc2 : (capsOf (s.cut live m).hp caps).2.1 = caps') (hi : C.i f caps' = (True, ys)) (hys : ys = xs.map enc)
    (hs : (capsOf (s.cut live m).hp caps).2.2 = hpO 0 a0) (h0' : R 0 xs a0)
    (step : ∀ k x r a, xs[k]? = some x → xs.drop k = x :: r → R k (x :: r) a → (enc x).length = ps.length ∧
      dwp C (hpO k a).length asg (DExit.only fun s1 => dwp C s1.hp.length c (DExit.then (fun s' => ∃ a', (s'.cut [] m).hp = hpO (k + 1) a' ∧ R (k + 1) r a') (fun e s' => Q e ⟨fr0, s'.hp⟩)) s1) ⟨ps.zip (enc x) ++ fr0, hpO k a⟩)
    (last : ∀ k a, k = xs.length → R k [] a → Q .normal ⟨fr0, hpO k a⟩) : dwp C h0 (.rangeF live m g ps asg c) Q s := by
  subst hys
  refine ⟨hm, ?_⟩
  simp only [hg, hc2, hi, true_and, hs, hfr]
  refine ⟨hc1, fun k hp => k ≤ xs.length ∧ ∃ a, hp = hpO k a ∧ R k (xs.drop k) a, ⟨Nat.zero_le _, a0, rfl, h0'⟩, ?_, ?_⟩
  · rintro k y hp ⟨hk, a, rfl, hr⟩ hy
    rw [List.getElem?_map] at hy
    cases hx : xs[k]? with
    | none => simp [hx] at hy
    | some x =>
      simp only [hx, Option.map_some, Option.some.injEq] at hy
      subst hy
      have hlt : k < xs.length := (List.getElem?_eq_some_iff.1 hx).1
      have e2 : xs.drop k = x :: xs.drop (k + 1) := by
        rw [List.drop_eq_getElem_cons hlt, (List.getElem?_eq_some_iff.1 hx).2]
      rw [e2] at hr
      obtain ⟨h1, h2⟩ := step k x _ a hx e2 hr
      refine ⟨h1, dwp_mono' asg _ _ _ (fun e s1 hA => ?_) h2⟩
      cases e with
      | exit id => exact hA
      | ret => exact hA
      | normal =>
      refine dwp_mono' c _ _ _ (fun e s' hh => ?_) hA
      cases e with
      | normal => obtain ⟨a', h3, h4⟩ := hh; exact ⟨hlt, a', h3, h4⟩
      | exit id => exact hh
      | ret => exact hh
  · rintro hp ⟨_, a, rfl, hr⟩
    rw [List.length_map] at hr ⊢
    rw [List.drop_length] at hr
    exact last _ a rfl hr

theorem only_normal {next : DS → Prop} : DExit.only next .normal s = next s := rfl
/-! What an iterator hands over, over what it holds. -/
open Classical in
noncomputable def specI {α : Type} (args : α → List DV) (f : α → Prop × List (List DV)) : List DV → Prop × List (List DV) := fun l =>
  if h : ∃ a, l = args a then f h.choose else (False, [])
theorem specI_at {α : Type} {args : α → List DV} (h : InjL args) (f : α → Prop × List (List DV)) (a : α) : specI args f (args a) = f a := by
  unfold specI
  have hx : ∃ b, args a = args b := ⟨a, rfl⟩
  rw [dif_pos hx]
  have hy := hx.choose_spec
  generalize hx.choose = x at hy ⊢
  rw [h _ _ hy]
theorem OkI.mkA [Inhabited Env] {P : Program} {ps hs is} {f : FuncId} {d : DFun} {n : Nat} {α : Type} {args : α → List DV} {s : α → Prop × List (List DV)} (h1 : AllP P ps) (h2 : AllH P hs) (h3 : AllI P is) (hm : mFun P f (n + 1) d = true) (hres : d.res = [])
    (hN : ∀ a, (args a).length = n) (k : ∀ a l, (s a).1 → dwpI (Orc.ofI ps hs is) l (s a).2 d.code (EndI (s a).2.length) (⟨(0, .yld l) :: frameFrom 1 (args a), []⟩, some 0)) (hA : ∀ a, (args a).all DV.immB = true := by exact fun _ => rfl) : OkI P f (specI args s) := by
  refine OkI.mk h1 h2 h3 hm hres fun caps l hp => ?_
  unfold specI at hp ⊢
  split at hp
  · rename_i h
    rw [dif_pos h]
    have hx := h.choose_spec
    have := k _ l hp
    have hAA := hA h.choose
    generalize h.choose = a at *
    subst hx
    rw [openC_imm _ hAA]
    exact ⟨hN a, this⟩
  · exact hp.elim
/-- An iterator with a cell of its own. -/
theorem OkI.mkB [Inhabited Env] {P : Program} {ps hs is} {f : FuncId} {d : DFun} {n : Nat} {α : Type} {args : α → List DV} {s : α → Prop × List (List DV)} (h1 : AllP P ps) (h2 : AllH P hs) (h3 : AllI P is) (hm : mFun P f (n + 1) d = true) (hres : d.res = [])
    (hN : ∀ a, (args a).length = n) (k : ∀ a l, (s a).1 → dwpI (Orc.ofI ps hs is) l (s a).2 d.code (EndI (s a).2.length) (⟨(0, .yld l) :: frameFrom 1 (openC (args a)).1, (openC (args a)).2⟩, some 0)) : OkI P f (specI args s) := by
  refine OkI.mk h1 h2 h3 hm hres fun caps l hp => ?_
  unfold specI at hp ⊢
  split at hp
  · rename_i h
    rw [dif_pos h]
    have hx := h.choose_spec
    have := k _ l hp
    generalize h.choose = a at *
    subst hx
    exact ⟨hN a, this⟩
  · exact hp.elim
theorem ofI_p (ps hs is) (f : FuncId) (a : List DV) : (Orc.ofI ps hs is).p f a = pOf ps f a := rfl
theorem ofI_h (ps hs is) (f : FuncId) (a : List DV) (hp : List DObj) : (Orc.ofI ps hs is).h f a hp = hOf hs f a hp := rfl
theorem ofI_i (ps hs is) (f : FuncId) (a : List DV) : (Orc.ofI ps hs is).i f a = iOf is f a := rfl
theorem iOf_cons (f : FuncId) (s : List DV → Prop × List (List DV)) (r) (g : FuncId) (a : List DV) : iOf ((f, s) :: r) g a = if g = f then s a else iOf r g a := rfl
end
def rI := And.intro @dwpI_skip (And.intro @dwpI_ops (And.intro @dwpI_opsT (And.intro @dwpI_opsP (And.intro @dwpI_seq (And.intro @dwpI_block (And.intro @dwpI_exit (And.intro @dwpI_ret (And.intro @dwpI_condT (And.intro @dwpI_condF (And.intro @thenI_normal (And.intro @thenI_exit (And.intro @thenI_ret (And.intro @inBlockI_normal (And.intro @inBlockI_exit (And.intro @inBlockI_ret (And.intro @endI_normal (And.intro @endI_ret (And.intro @endI_exit (And.intro @dopsI_nil (And.intro @dopsI_none (And.intro @dopsI_someT (And.intro @dopsI_someF (And.intro @dopsI_someN (And.intro @drunI_val @drunI_yld))))))))))))))))))))))))
end Go.Nk
