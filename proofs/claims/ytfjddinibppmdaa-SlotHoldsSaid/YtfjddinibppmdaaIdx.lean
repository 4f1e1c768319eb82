/- Where the first of a list is that has a property. -/
import Derived.Test.YtfjddinibppmdaaFns
import Derived.Test.YtfjddinibppmdaaNkZ3
set_option linter.all false
set_option maxRecDepth 20000
namespace Go.Proofs.Ytfjddinibppmdaa
open Go.Nk

end Go.Proofs.Ytfjddinibppmdaa
