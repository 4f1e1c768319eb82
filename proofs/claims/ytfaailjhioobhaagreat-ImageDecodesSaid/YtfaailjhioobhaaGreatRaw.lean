/- What a walk at the world's level tells, as what a pure function tells. -/
import Derived.Test.YtfaailjhioobhaaGreatI4
import Derived.Test.YtfaailjhioobhaaGreatFns
import Derived.Test.YtfaailjhioobhaaGreatNkZ6
set_option linter.all false
set_option maxRecDepth 20000
namespace Go.Proofs.YtfaailjhioobhaaGreat
open Go.Nk Go.RowKit
theorem args2 {R : DV → Value → Prop} {d d' : DV} {args : Array Value} (h : All2 R [d,d'] args.toList) : ∃ v u,args = #[v,u] ∧ R d v ∧ R d' u := by
 obtain ⟨a⟩ := args
 obtain ⟨h1,h2⟩ := h
 match a,h1 with
 | [v,u],_ =>
   obtain ⟨v',hv,hr⟩ := h2 0 _ rfl
   obtain ⟨u',hu,hs⟩ := h2 1 _ rfl
   cases hv
   cases hu
   exact ⟨v,u,rfl,hr,hs⟩
end Go.Proofs.YtfaailjhioobhaaGreat
