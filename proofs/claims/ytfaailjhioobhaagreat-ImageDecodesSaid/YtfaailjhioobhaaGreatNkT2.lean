/- What an iterator holds: a cell of its own goes over to it. -/
import Derived.Test.YtfaailjhioobhaaGreatNkT1
set_option linter.all false
namespace Go.Nk
open Go.RowKit
section
variable {P : Program} {K F : Nat → Prop} {σ : Nat → Option Nat} {hp : List DObj} {w : World}
theorem hm0 {F : Nat → Prop} {σ : Nat → Option Nat} {hp : List DObj} {w : World} : HM F zkf [] w F σ hp w :=
 ⟨fun _ h => h,fun _ _ => rfl,Nat.zero_le _,fun h o ho => by simp at ho⟩
end
end Go.Nk
