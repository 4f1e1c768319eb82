/- ident.Once and ident.name, as what pure functions tell. -/
import Derived.Test.YtkefjfaeaalmbaaDoorBa
import Derived.Test.YtkefjfaeaalmbaaDoorOnA
import Derived.Test.YtkefjfaeaalmbaaDoorOnB
set_option linter.all false
set_option maxRecDepth 20000
namespace Go.Proofs.YtkefjfaeaalmbaaDoor
open Go.Nk Go.RowKit

theorem rawP1 {P : Program} {g : FuncId} {α : Type} {e : α → DV} {f : α → Prop × DV}
    (k : ∀ a, (f a).1 → callOk P g = true ∧ TellsP P g [e a] (f a).2) : OkP P g (spec1 e f) := by
  intro args hp
  unfold spec1 at hp ⊢
  split at hp
  · rename_i h
    rw [dif_pos h]
    have hx := h.choose_spec
    have := k _ hp
    generalize h.choose = a at *
    subst hx
    exact this
  · exact hp.elim
theorem rawP2 {P : Program} {g : FuncId} {α β : Type} {e : α → DV} {e' : β → DV} {f : α → β → Prop × DV}
    (k : ∀ a b, (f a b).1 → callOk P g = true ∧ TellsP P g [e a, e' b] (f a b).2) : OkP P g (spec2 e e' f) := by
  intro args hp
  unfold spec2 at hp ⊢
  split at hp
  · rename_i h
    rw [dif_pos h]
    have hx := h.choose_spec
    have := k _ _ hp
    generalize h.choose = a at *
    subst hx
    exact this
  · exact hp.elim
/-- What a call that keeps all that lay may tell. -/
theorem tell_bool {K : Nat → Prop} {F : Nat → Prop} {w : World} (hF : ∀ b, F b → b < w.heap.size) (hK : ∀ b, K b → b < w.heap.size) (x : Bool) :
    ∀ e w', (e = Ending.returned (.bool x) ∧ Below w.heap.size w w') → ∃ v F', e = .returned v ∧ Moves K F w F' w' ∧ (∀ b, F' b → b < w'.heap.size) ∧ VRep F' none_ [] w' (.bool x) v := by
  rintro e w' ⟨rfl, hb⟩
  exact ⟨_, F, rfl, ⟨hb.os, hb.tape, hb.output, hb.size, fun b h => hb.block b (hK b h), fun b h => hb.block b (hF b h), fun _ h => h, fun _ h => .inl h⟩, fun b h => Nat.lt_of_lt_of_le (hF b h) hb.size, .imm (.bool _)⟩

noncomputable def s_IdOnce : List DV → Prop × DV := spec1 eSs fun l => (l.length ≤ 140737488351232 ∧ ∀ s ∈ l, s.length ≤ maxLen, .bool (decide l.Nodup))
theorem s_IdOnce_at (l : List (List UInt8)) : s_IdOnce [.sl (sls l)] = (l.length ≤ 140737488351232 ∧ ∀ s ∈ l, s.length ≤ maxLen, .bool (decide l.Nodup)) := spec1_at inj_Ss _ _
theorem ok_ident_Once : OkP Tryd.prog 31 s_IdOnce := by
  refine rawP1 fun l h => ⟨by kernel_rfl, ?_⟩
  obtain ⟨h1, h2⟩ := h
  intro K F w args hF hK ha
  obtain ⟨v, rfl⟩ : ∃ v, args = #[v] := by
    have := ha.1
    obtain ⟨a⟩ := args
    match a, this with
    | [v], _ => exact ⟨v, rfl⟩
  obtain ⟨v', hv', hv⟩ := ha.2 0 _ rfl
  cases hv'
  have fin := tell_bool hF hK (decide l.Nodup)
  cases hv with
  | imm h =>
    cases h with
    | sl es A n c a z cv hn hnc hA hz hc hr =>
      subst hn
      by_cases hl : l = []
      · subst hl
        exact (Tryd.once_none A c w).mono fin
      · have hls : sls l ≠ [] := by simpa [sls] using hl
        obtain ⟨hA1, hA2, hA3⟩ := hA hls
        subst hA1
        obtain ⟨blk, off, sp⟩ := a
        simp only at hA2
        subst hA2
        have hz1 : z = 1 := by
          obtain ⟨x, l', rfl⟩ := List.exists_cons_of_ne_nil hl
          have := hz 0 [.str x] rfl
          simpa using this.symm
        subst hz1
        have hcell : ∀ k, k < l.length → w.cell? ⟨blk, off + k, none⟩ = some (.string ⟨(l.getD k []).toArray⟩) := by
          intro k hk
          have e1 : cellAt (sls l) k 0 = some (.str l[k]) := by simp [cellAt, sls, hk]
          have c1 := (hc k 0 _ e1).1
          have r1 := hr k 0 _ e1
          have g : l.getD k [] = l[k] := by simp [hk]
          rw [g]
          generalize cv k 0 = v0 at *
          cases r1
          simpa using c1
        have hsz : ∀ k, k < l.length → (l.getD k []).length ≤ maxLen := fun k hk => by
          have g : l.getD k [] = l[k] := by simp [hk]
          rw [g]; exact h2 _ (List.getElem_mem hk)
        have := Tryd.once_any l blk off c w (hF _ hA3) h1 hsz hcell
        rw [sls_len]
        exact this.mono fin

/-- The kinds of a first rune. -/
@[reducible] def eKd (b : Bool) : DV := .clo (if b then 40 else 42) []
theorem inj_Kd : Inj eKd := fun a b h => by
  cases a <;> cases b <;> first | rfl | (simp [eKd] at h)
def kdF (b : Bool) : Int → Bool := if b then smallB else greatB
noncomputable def s_IdName : List DV → Prop × DV := spec2 eS eKd fun s b => (s.length ≤ 140737488351232, .bool (nameB (kdF b) s))
theorem ok_ident_name : OkP Tryd.prog 39 s_IdName := by
  refine rawP2 fun s b h => ⟨by kernel_rfl, ?_⟩
  intro K F w args hF hK ha
  obtain ⟨v, u, rfl⟩ : ∃ v u, args = #[v, u] := by
    have := ha.1
    obtain ⟨a⟩ := args
    match a, this with
    | [v, u], _ => exact ⟨v, u, rfl⟩
  obtain ⟨v', hv', hv⟩ := ha.2 0 _ rfl
  obtain ⟨u', hu', hu⟩ := ha.2 1 _ rfl
  cases hv'
  cases hu'
  have fin := tell_bool hF hK (nameB (kdF b) s)
  have hsz : (⟨s.toArray⟩ : ByteArray).size ≤ 140737488351232 := h
  cases hv with
  | imm hv =>
    cases hv
    have key : u = .func (.func (if b then 40 else 42)) #[] #[] := by
      have e0 : ∀ vs : Array Value, ([] : List DV).length = vs.size → vs = #[] := fun vs h => Array.size_eq_zero_iff.1 h.symm
      cases hu with
      | imm hu =>
        cases hu with
        | clo f cs vs hl vv hv hr => obtain rfl := e0 vs hl; rfl
      | clo f cs vs hl vv hv hr => obtain rfl := e0 vs hl; rfl
    subst key
    cases b
    · exact (Tryd.name_great ⟨s.toArray⟩ w hsz).mono fin
    · exact (Tryd.name_small ⟨s.toArray⟩ w hsz).mono fin
theorem s_IdName_small (s : List UInt8) : s_IdName [.str s, .clo 40 []] = (s.length ≤ 140737488351232, .bool (nameB smallB s)) := spec2_at inj_S inj_Kd (fun s b => (s.length ≤ 140737488351232, .bool (nameB (kdF b) s))) s true
theorem s_IdName_great (s : List UInt8) : s_IdName [.str s, .clo 42 []] = (s.length ≤ 140737488351232, .bool (nameB greatB s)) := spec2_at inj_S inj_Kd (fun s b => (s.length ≤ 140737488351232, .bool (nameB (kdF b) s))) s false
end Go.Proofs.YtkefjfaeaalmbaaDoor
