/- Comparisons of images that are the same. -/
import Derived.Test.YtfjddinibppmdaaTyJ
set_option linter.all false
set_option maxRecDepth 20000
namespace Go.Proofs.Ytfjddinibppmdaa
open Go.Nk

theorem few_E {x : Img} (h : fewF x = true) : smallF x.en = true ∧ x.ins.length ≤ 50 ∧ x.outs.length ≤ 50 ∧ x.slots.length ≤ 150 ∧ x.loc.length ≤ 1100 ∧ x.code.length ≤ 800 ∧ ∀ s ∈ x.slots, s.ini.length ≤ 300 := by
  simp only [fewF, Bool.and_eq_true, decide_eq_true_eq, List.all_eq_true, fewS] at h
  obtain ⟨⟨⟨⟨⟨⟨h1, h2⟩, h3⟩, h4⟩, h5⟩, h6⟩, h7⟩ := h
  exact ⟨h1, by omega, by omega, h3, h4, h5, fun s hs => (h7 s hs).2⟩
end Go.Proofs.Ytfjddinibppmdaa
