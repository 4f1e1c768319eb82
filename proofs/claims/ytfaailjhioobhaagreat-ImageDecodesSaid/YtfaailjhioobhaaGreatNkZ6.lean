/- Functions with iterators, over encodings of their arguments. -/
import Derived.Test.YtfaailjhioobhaaGreatNkZ5
set_option linter.all false
namespace Go.Nk
end Go.Nk
