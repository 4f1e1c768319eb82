/- Iterators: what a function hands to the rounds of a range over it. -/
import Derived.Test.YtfaailjhioobhaaGreatNkZ3
namespace Go.Proofs.YtfaailjhioobhaaGreat
end Go.Proofs.YtfaailjhioobhaaGreat
