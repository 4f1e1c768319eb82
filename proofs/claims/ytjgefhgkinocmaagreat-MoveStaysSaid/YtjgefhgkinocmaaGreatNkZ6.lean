/- Functions with iterators, over encodings of their arguments. -/
import Derived.Test.YtjgefhgkinocmaaGreatNkZ5
set_option linter.all false
namespace Go.Nk

theorem OkP.mk3I [Inhabited Env] {P : Program} {ps hs is} {g : FuncId} {d : DFun} {α β γ : Type} {e : α → DV} {e' : β → DV} {e'' : γ → DV} {f : α → β → γ → Prop × DV} (h1 : AllP P ps) (h2 : AllH P hs) (h3 : AllI P is) (hm : mFun P g 3 d = true)
    (k : ∀ a b c, (f a b c).1 → dwp (Orc.ofI ps hs is) 0 d.code (EndP d.res (f a b c).2) ⟨frameFrom 0 [e a, e' b, e'' c], []⟩) : OkP P g (spec3 e e' e'' f) := by
  intro l hp
  unfold spec3 at hp ⊢
  split at hp
  · rename_i h
    rw [dif_pos h]
    have hx := h.choose_spec
    have := k _ _ _ hp
    generalize h.choose = a at *
    subst hx
    exact tellsP_of (ofI_ok h1 h2 h3) hm this
  · exact hp.elim
end Go.Nk
