/- What a proof over the data level uses: oracles built one function after the other; loops; bytes. -/
import Derived.Test.YtjgefhgkinocmaaGreatNkV
import Derived.Laws.BitsAllLaws
import Derived.Laws.Bits64
set_option linter.all false
namespace Go.Nk

def Orc.nil : Orc := ⟨fun _ _ => (False, .undef), fun _ _ _ => no, fun _ _ => (False, [])⟩

theorem dwp_mono' {C : Orc} {h0 : Nat} : ∀ (c : DCode) (Q Q' : DExit → DS → Prop) (s : DS), (∀ e s, Q e s → Q' e s) → dwp C h0 c Q s → dwp C h0 c Q' s := by
  have hdops : ∀ (l : List DOper) (s : DS) (K K' : DS → Prop), (∀ s, K s → K' s) → dops C l s K → dops C l s K' := by
    intro l
    induction l with
    | nil => intro s K K' h hk; exact h _ hk
    | cons o r ih =>
      intro s K K' h hk
      unfold dops dstep at hk ⊢
      split at hk
      · exact ⟨hk.1, ih _ _ _ h hk.2⟩
      · split at hk
        · split at hk
          · rename_i e; rw [if_pos e]; exact ⟨hk.1, ih _ _ _ h hk.2⟩
          · rename_i e; rw [if_neg e]; exact ih _ _ _ h hk
        · exact ih _ _ _ h hk
        · exact hk.elim
  intro c
  induction c generalizing h0 with
  | skip => intro Q Q' s h hq; exact h _ _ hq
  | ops d l => intro Q Q' s h hq; exact hdops l s _ _ (h .normal) hq
  | opsS seps l => intro Q Q' s h hq; exact ⟨hq.1, hdops _ s _ _ (h .normal) hq.2⟩
  | opsP l => intro Q Q' s h hq; exact hdops _ s _ _ (h .normal) hq
  | seq a b iha ihb =>
    intro Q Q' s h hq
    refine iha _ _ s (fun e s' hh => ?_) hq
    cases e with
    | normal => exact ihb _ _ s' h hh
    | exit id => exact h _ _ hh
    | ret => exact h _ _ hh
  | cond x a b iha ihb =>
    intro Q Q' s h hq
    unfold dwp at hq ⊢
    split at hq
    · exact ⟨fun e => iha _ _ s h (hq.1 e), fun e => ihb _ _ s h (hq.2 e)⟩
    · exact ⟨iha _ _ s h hq.1, ihb _ _ s h hq.2⟩
    · exact hq.elim
  | block id c ih =>
    intro Q Q' s h hq
    refine ih _ _ s (fun e s' hh => ?_) hq
    cases e with
    | normal => exact h _ _ hh
    | exit k =>
      simp only [DExit.inBlock] at hh ⊢
      split at hh
      · rename_i e; rw [if_pos e]; exact h _ _ hh
      · rename_i e; rw [if_neg e]; exact h _ _ hh
    | ret => exact h _ _ hh
  | loop live m c ih =>
    intro Q Q' s h hq
    obtain ⟨h1, I, μ, h2, h3⟩ := hq
    refine ⟨h1, I, μ, h2, fun s' hs' => ih _ _ s' (fun e s'' hh => ?_) (h3 s' hs')⟩
    cases e with
    | normal => exact hh
    | exit id => exact h _ _ hh
    | ret => exact h _ _ hh
  | gown t off z c ih =>
    intro Q Q' s h hq
    unfold dwp at hq ⊢
    split at hq
    · split at hq
      · exact hq.elim (fun x => .inl ⟨x.1, ih _ _ _ h x.2⟩) (fun x => .inr (ih _ _ _ h x))
      · exact hq.elim
    · exact hq.elim
  | scope c ih => intro Q Q' s h hq; exact ih _ _ _ h hq
  | rsv c ih => intro Q Q' s h hq; exact ih _ _ _ h hq
  | bad => intro Q Q' s h hq; exact hq.elim
  | rangeF live m g ps asg c ihA ih =>
    intro Q Q' s h hq
    unfold dwp at hq ⊢
    obtain ⟨h1, hq⟩ := hq
    refine ⟨h1, ?_⟩
    split at hq
    · obtain ⟨h2, h3, I, h4, h5, h6⟩ := hq
      refine ⟨h2, h3, I, h4, fun k x hp hi hx => ⟨(h5 k x hp hi hx).1, ihA _ _ _ (fun e s1 hA => ?_) (h5 k x hp hi hx).2⟩, fun hp hi => h _ _ (h6 hp hi)⟩
      cases e with
      | exit id => exact hA
      | ret => exact hA
      | normal =>
      refine ih _ _ _ (fun e s' hh => ?_) hA
      cases e with
      | normal => exact hh
      | exit id => exact h _ _ hh
      | ret => exact h _ _ hh
    · exact hq.elim
  | cut live m c ih => intro Q Q' s h hq; exact ⟨hq.1, ih _ _ _ h hq.2⟩
  | exit id => intro Q Q' s h hq; exact h _ _ hq
  | ret => intro Q Q' s h hq; exact h _ _ hq

/-- A loop, with states named by an index of the proof's own. -/
theorem dwp_loop {C : Orc} {h0 : Nat} {live : List Nat} {m : Option Nat} {c : DCode} {Q : DExit → DS → Prop} {s : DS} {α : Type} (st : α → DS) (Inv : α → Prop) (μ : α → Nat) (a0 : α)
    (hm : match m with | some k => h0 ≤ k | none => True) (hs : s.cut live m = st a0) (hi : Inv a0)
    (step : ∀ a, Inv a → dwp C h0 c (DExit.then (fun s' => ∃ a', s'.cut live m = st a' ∧ Inv a' ∧ μ a' < μ a) Q) (st a)) : dwp C h0 (.loop live m c) Q s := by
  classical
  have hmono := @dwp_mono' C h0
  let has : DS → Nat → Prop := fun s n => ∃ a, s = st a ∧ Inv a ∧ μ a = n
  have hleast : ∀ s : DS, ∃ k, (∃ n, has s n) → has s k ∧ ∀ m, has s m → k ≤ m := by
    intro s
    by_cases hx : ∃ n, has s n
    · obtain ⟨n, hn⟩ := hx
      induction n using Nat.strongRecOn with
      | _ n ih =>
        by_cases hy : ∃ m, m < n ∧ has s m
        · obtain ⟨m, h1, h2⟩ := hy
          exact ih m h1 h2
        · exact ⟨n, fun _ => ⟨hn, fun m hm => by
            rcases Nat.lt_or_ge m n with h | h
            · exact absurd ⟨m, h, hm⟩ hy
            · exact h⟩⟩
    · exact ⟨0, fun h => absurd h hx⟩
  obtain ⟨least, hleast⟩ := Classical.axiomOfChoice hleast
  refine ⟨hm, fun s => ∃ n, has s n, least, ⟨μ a0, a0, hs, hi, rfl⟩, fun s' hs' => ?_⟩
  have hl : has s' (least s') := (hleast s' hs').1
  obtain ⟨a, rfl, h1, h2⟩ := hl
  refine hmono c _ _ _ (fun e s'' hh => ?_) (step a h1)
  cases e with
  | normal =>
    obtain ⟨a', e1, e2, e3⟩ := hh
    have hx : ∃ n, has (s''.cut live m) n := ⟨μ a', a', e1, e2, rfl⟩
    refine ⟨hx, ?_⟩
    have : least (s''.cut live m) ≤ μ a' := (hleast _ hx).2 _ ⟨a', e1, e2, rfl⟩
    omega
  | exit id => exact hh
  | ret => exact hh

/-! Steps. -/
section
variable {C : Orc} {h0 : Nat} {Q : DExit → DS → Prop} {s : DS}
theorem dwp_skip : dwp C h0 .skip Q s = Q .normal s := rfl
theorem dwp_ops {b : Bool} {l : List DOper} : dwp C h0 (.ops b l) Q s = dops C l s (Q .normal) := rfl
theorem dwp_opsS {seps : List (Nat × Nat)} {l : List (Nat × DOper)} : dwp C h0 (.opsS seps l) Q s = (sepsD seps s.fr ∧ dops C (l.map (·.2)) s (Q .normal)) := rfl
theorem dwp_opsP {l : List (Nat × DOper)} : dwp C h0 (.opsP l) Q s = dops C (l.map (·.2)) s (Q .normal) := rfl
theorem dwp_seq {a b : DCode} : dwp C h0 (.seq a b) Q s = dwp C h0 a (DExit.then (dwp C h0 b Q) Q) s := rfl
theorem dwp_block {id : Nat} {c : DCode} : dwp C h0 (.block id c) Q s = dwp C h0 c (DExit.inBlock id Q) s := rfl
theorem dwp_scope {c : DCode} : dwp C h0 (.scope c) Q s = dwp C h0 c Q s := rfl
theorem dwp_rsv {c : DCode} : dwp C h0 (.rsv c) Q s = dwp C h0 c Q ⟨s.fr, s.hp ++ [⟨.dead, 0, []⟩]⟩ := rfl
theorem dwp_gown {t off z : Nat} {c : DCode} : dwp C h0 (.gown t off z c) Q s = (match get t s.fr with
    | .ptr h L i j => match s.hp[h]? with
      | some o => ((o.k = .loc ∧ o.es.length = L ∧ i < L ∧ (o.es.getD i [])[j + off]? = some .nil) ∧
          dwp C h0 c Q ⟨s.fr, s.hp.set h { o with es := o.es.set i ((o.es.getD i []).set (j + off) (.own s.hp.length 0 0 0)) } ++ [⟨.imm, z, []⟩]⟩) ∨ dwp C h0 c Q s
      | none => False
    | _ => False) := rfl
theorem dwp_gown_grow {t off z : Nat} {c : DCode} (h : match get t s.fr with
    | .ptr h L i j => match s.hp[h]? with
      | some o => (o.k = .loc ∧ o.es.length = L ∧ i < L ∧ (o.es.getD i [])[j + off]? = some .nil) ∧
          dwp C h0 c Q ⟨s.fr, s.hp.set h { o with es := o.es.set i ((o.es.getD i []).set (j + off) (.own s.hp.length 0 0 0)) } ++ [⟨.imm, z, []⟩]⟩
      | none => False
    | _ => False) : dwp C h0 (.gown t off z c) Q s := by
  rw [dwp_gown]
  split at h
  · split at h
    · exact .inl h
    · exact h.elim
  · exact h.elim
theorem dwp_exit {id : Nat} : dwp C h0 (.exit id) Q s = Q (.exit id) s := rfl
theorem dwp_ret : dwp C h0 .ret Q s = Q .ret s := rfl
theorem dwp_cond {c : DA} {a b : DCode} : dwp C h0 (.cond c a b) Q s = (match c.ev s.fr with
    | .bool t => if t = true then dwp C h0 a Q s else dwp C h0 b Q s
    | .anyb => dwp C h0 a Q s ∧ dwp C h0 b Q s
    | _ => False) := by
  simp only [dwp]
  generalize c.ev s.fr = d
  cases d with
  | bool t => cases t <;> simp
  | _ => rfl
theorem dops_nil {K : DS → Prop} : dops C [] s K = K s := rfl
theorem dops_none {dst : Option Nat} {op : DOp} {r : List DOper} {K : DS → Prop} : dops C (⟨dst, op, none⟩ :: r) s K = ((dvalX C op s).pre ∧ dops C r (s.put dst (dvalX C op s)) K) := rfl
theorem dops_some {dst : Option Nat} {op : DOp} {g : Nat} {b : Bool} {r : List DOper} {K : DS → Prop} : dops C (⟨dst, op, some (g, b)⟩ :: r) s K = (match get g s.fr with
    | .bool b' => if b' = b then (dvalX C op s).pre ∧ dops C r (s.put dst (dvalX C op s)) K else dops C r (s.put dst ⟨True, .tup [], s.hp⟩) K
    | .tup [] => dops C r (s.put dst ⟨True, .tup [], s.hp⟩) K
    | _ => False) := rfl
theorem then_normal {next : DS → Prop} : DExit.then next Q .normal s = next s := rfl
theorem then_exit {next : DS → Prop} {id : Nat} : DExit.then next Q (.exit id) s = Q (.exit id) s := rfl
theorem then_ret {next : DS → Prop} : DExit.then next Q .ret s = Q .ret s := rfl
theorem inBlock_normal {id : Nat} : DExit.inBlock id Q .normal s = Q .normal s := rfl
theorem inBlock_exit {id k : Nat} : DExit.inBlock id Q (.exit k) s = if k = id then Q .normal s else Q (.exit k) s := rfl
theorem inBlock_ret {id : Nat} : DExit.inBlock id Q .ret s = Q .ret s := rfl
theorem put_some {d : Nat} {r : Res} : s.put (some d) r = ⟨(d, r.val) :: s.fr, r.hp⟩ := rfl
theorem put_none {r : Res} : s.put none r = ⟨s.fr, r.hp⟩ := rfl
theorem ev_t {n : Nat} {fr : List (Nat × DV)} : (DA.t n).ev fr = get n fr := rfl
theorem ev_c {d : DV} {fr : List (Nat × DV)} : (DA.c d).ev fr = d := rfl
theorem cut_some {live : List Nat} {m : Nat} : s.cut live (some m) = ⟨live.map fun t => (t, (get t s.fr).cut m), (s.hp.take m).map (DObj.cut m)⟩ := rfl
theorem cut_none {live : List Nat} : s.cut live none = ⟨live.map fun t => (t, get t s.fr), s.hp⟩ := rfl
theorem endP_normal {res : List DR} {r : DV} : EndP res r .normal s = ((retV s res).1 ∧ (fzT s.hp (retV s res).2).pre ∧ (fzT s.hp (retV s res).2).val = r) := rfl
theorem endP_ret {res : List DR} {r : DV} : EndP res r .ret s = ((retV s res).1 ∧ (fzT s.hp (retV s res).2).pre ∧ (fzT s.hp (retV s res).2).val = r) := rfl
theorem endH_normal {res : List DR} {r : DV} {hp' : List DObj} : EndH res r hp' .normal s = ((retV s res).1 ∧ (retV s res).2 = r ∧ s.hp = hp') := rfl
theorem endH_ret {res : List DR} {r : DV} {hp' : List DObj} : EndH res r hp' .ret s = ((retV s res).1 ∧ (retV s res).2 = r ∧ s.hp = hp') := rfl
end

theorem wrap_i64_id {n : Int} (h : -9223372036854775808 ≤ n ∧ n < 9223372036854775808) : IntKind.i64.wrap n = n := by rw [IntKind.wrap_i64]; omega
/-! Bits. -/
/-! Bytes. -/
def bsl (l : List UInt8) : List (List DV) := l.map fun b => [.int .u8 b.toNat]

def unb : List (List DV) → Option (List UInt8)
  | [] => some []
  | [.int .u8 n] :: r => if 0 ≤ n ∧ n < 256 then (unb r).map (UInt8.ofNat n.toNat :: ·) else none
  | _ => none

theorem unb_bsl : ∀ l : List UInt8, unb (bsl l) = some l
  | [] => rfl
  | b :: l => by
    have h := unb_bsl l
    unfold bsl at h ⊢
    have h1 : b.toNat < 256 := b.toNat_lt
    simp only [List.map_cons, unb]
    rw [if_pos (by omega), h]
    simp

theorem bsl_length (l : List UInt8) : (bsl l).length = l.length := by simp [bsl]
theorem bsl_drop (l : List UInt8) (n : Nat) : (bsl l).drop n = bsl (l.drop n) := by simp [bsl]
theorem bsl_take (l : List UInt8) (n : Nat) : (bsl l).take n = bsl (l.take n) := by simp [bsl]
theorem bsl_rows {l : List UInt8} : ∀ e ∈ bsl l, e.length = 1 := by
  intro e he
  simp only [bsl, List.mem_map] at he
  obtain ⟨b, _, rfl⟩ := he
  rfl

end Go.Nk
namespace Go.Nk
/-! What a function tells of byte slices. -/
def specB1 (f : List UInt8 → Prop × DV) : List DV → Prop × DV
  | [.sl es] => match unb es with
    | some l => f l
    | none => (False, .undef)
  | _ => (False, .undef)

def specB2 (f : List UInt8 → List UInt8 → Prop × DV) : List DV → Prop × DV
  | [.sl es, .sl es'] => match unb es, unb es' with
    | some l, some l' => f l l'
    | _, _ => (False, .undef)
  | _ => (False, .undef)

theorem specB1_at (f : List UInt8 → Prop × DV) (l : List UInt8) : specB1 f [.sl (bsl l)] = f l := by simp [specB1, unb_bsl]
theorem specB2_at (f : List UInt8 → List UInt8 → Prop × DV) (l l' : List UInt8) : specB2 f [.sl (bsl l), .sl (bsl l')] = f l l' := by simp [specB2, unb_bsl]

end Go.Nk
namespace Go.Nk
theorem bne_byte (a b : UInt8) : ((a.toNat : Int) != (b.toNat : Int)) = (a != b) := by
  have : (a.toNat : Int) = (b.toNat : Int) ↔ a = b := by
    rw [Int.natCast_inj]
    exact UInt8.toNat_inj
  by_cases h : a = b
  · simp [h]
  · have h2 : ¬ (a.toNat : Int) = (b.toNat : Int) := fun e => h (this.1 e)
    simp [bne, h, beq_eq_false_iff_ne.2 h2]
theorem beq_byte (a b : UInt8) : ((a.toNat : Int) == (b.toNat : Int)) = (a == b) := by
  have := bne_byte a b
  simp only [bne] at this
  cases h1 : ((a.toNat : Int) == (b.toNat : Int)) <;> cases h2 : (a == b) <;> simp_all

end Go.Nk
namespace Go.Nk
theorem slice_lo {hp : List DObj} {l : List UInt8} {k : IntKind} {a : Int} : dSlice hp 1 (.sl (bsl l)) (some (.int k a)) none none = (0 ≤ a ∧ a ≤ l.length, .sl (bsl (l.drop a.toNat))) := by
  simp only [dSlice, dBound, bsl_length, Option.isSome_none, Int.toNat_natCast, Prod.mk.injEq]
  refine ⟨propext ⟨fun h => ⟨h.2.2.2.2.2.1, h.2.2.2.2.2.2.1⟩, fun h => ⟨bsl_rows, trivial, trivial, trivial, by simp, h.1, h.2, Int.le_refl _, Int.le_refl _⟩⟩, ?_⟩
  rw [List.take_of_length_le (by simp [bsl_length]), bsl_drop]

theorem slice_hi {hp : List DObj} {l : List UInt8} {k : IntKind} {a : Int} : dSlice hp 1 (.sl (bsl l)) none (some (.int k a)) none = (0 ≤ a ∧ a ≤ l.length, .sl (bsl (l.take a.toNat))) := by
  simp only [dSlice, dBound, bsl_length, Option.isSome_none, Prod.mk.injEq]
  refine ⟨propext ⟨fun h => ⟨h.2.2.2.2.2.2.1, h.2.2.2.2.2.2.2.2⟩, fun h => ⟨bsl_rows, trivial, trivial, trivial, by simp, Int.le_refl _, h.1, Int.le_refl _, h.2⟩⟩, ?_⟩
  rw [bsl_take]; rfl

theorem slice_both {hp : List DObj} {l : List UInt8} {k k' : IntKind} {a b : Int} : dSlice hp 1 (.sl (bsl l)) (some (.int k a)) (some (.int k' b)) none = (0 ≤ a ∧ a ≤ b ∧ b ≤ l.length, .sl (bsl ((l.take b.toNat).drop a.toNat))) := by
  simp only [dSlice, dBound, bsl_length, Option.isSome_none, Prod.mk.injEq]
  refine ⟨propext ⟨fun h => ⟨h.2.2.2.2.2.1, h.2.2.2.2.2.2.1, h.2.2.2.2.2.2.2.2⟩, fun h => ⟨bsl_rows, trivial, trivial, trivial, by simp, h.1, h.2.1, Int.le_refl _, h.2.2⟩⟩, ?_⟩
  rw [bsl_take, bsl_drop]
end Go.Nk
