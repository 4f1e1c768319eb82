/- What a walk at the world's level tells, as what a pure function tells. -/
import Derived.Test.YtnbmpdhgejppaaaDoorFns
import Derived.Test.YtnbmpdhgejppaaaDoorNkZ6
set_option linter.all false
set_option maxRecDepth 20000
namespace Go.Proofs.YtnbmpdhgejppaaaDoor
open Go.Nk Go.RowKit

theorem rawP1 {P : Program} {g : FuncId} {α : Type} {e : α → DV} {f : α → Prop × DV}
    (k : ∀ a, (f a).1 → callOk P g = true ∧ TellsP P g [e a] (f a).2) : OkP P g (spec1 e f) := by
  intro args hp
  unfold spec1 at hp ⊢
  split at hp
  · rename_i h
    rw [dif_pos h]
    have hx := h.choose_spec
    have := k _ hp
    generalize h.choose = a at *
    subst hx
    exact this
  · exact hp.elim
theorem rawP2 {P : Program} {g : FuncId} {α β : Type} {e : α → DV} {e' : β → DV} {f : α → β → Prop × DV}
    (k : ∀ a b, (f a b).1 → callOk P g = true ∧ TellsP P g [e a, e' b] (f a b).2) : OkP P g (spec2 e e' f) := by
  intro args hp
  unfold spec2 at hp ⊢
  split at hp
  · rename_i h
    rw [dif_pos h]
    have hx := h.choose_spec
    have := k _ _ hp
    generalize h.choose = a at *
    subst hx
    exact this
  · exact hp.elim
theorem tell_str {K : Nat → Prop} {F : Nat → Prop} {w : World} (hF : ∀ b, F b → b < w.heap.size) (hK : ∀ b, K b → b < w.heap.size) (x : List UInt8) :
    ∀ e w', (e = Ending.returned (.string ⟨x.toArray⟩) ∧ Below w.heap.size w w') → ∃ v F', e = .returned v ∧ Moves K F w F' w' ∧ (∀ b, F' b → b < w'.heap.size) ∧ VRep F' none_ [] w' (.str x) v := by
  rintro e w' ⟨rfl, hb⟩
  exact ⟨_, F, rfl, ⟨hb.os, hb.tape, hb.output, hb.size, fun b h => hb.block b (hK b h), fun b h => hb.block b (hF b h), fun _ h => h, fun _ h => .inl h⟩, fun b h => Nat.lt_of_lt_of_le (hF b h) hb.size, .imm (.str _)⟩
def okI64 (n : Int) : Prop := -9223372036854775808 ≤ n ∧ n < 9223372036854775808
theorem args1 {R : DV → Value → Prop} {d : DV} {args : Array Value} (h : All2 R [d] args.toList) : ∃ v, args = #[v] ∧ R d v := by
  obtain ⟨a⟩ := args
  obtain ⟨h1, h2⟩ := h
  match a, h1 with
  | [v], _ =>
    obtain ⟨v', hv, hr⟩ := h2 0 _ rfl
    cases hv
    exact ⟨v, rfl, hr⟩
theorem args2 {R : DV → Value → Prop} {d d' : DV} {args : Array Value} (h : All2 R [d, d'] args.toList) : ∃ v u, args = #[v, u] ∧ R d v ∧ R d' u := by
  obtain ⟨a⟩ := args
  obtain ⟨h1, h2⟩ := h
  match a, h1 with
  | [v, u], _ =>
    obtain ⟨v', hv, hr⟩ := h2 0 _ rfl
    obtain ⟨u', hu, hs⟩ := h2 1 _ rfl
    cases hv
    cases hu
    exact ⟨v, u, rfl, hr, hs⟩
end Go.Proofs.YtnbmpdhgejppaaaDoor
