/- Iterators, loops over what they hand over: the rules for their proofs. -/
import Derived.Test.YtfaailjhioobhaaGreatNkZ4
set_option linter.all false
namespace Go.Nk
section
variable {C : Orc} {l : Nat} {xs : List (List DV)} {Q : DExit → SI → Prop} {s : DS} {k : Option Nat}

end

section
variable {C : Orc} {h0 : Nat} {Q : DExit → DS → Prop} {s : DS}
/-! What an iterator hands over, over what it holds. -/
end
end Go.Nk
