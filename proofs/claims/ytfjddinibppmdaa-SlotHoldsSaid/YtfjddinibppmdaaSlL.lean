/- The document's store. -/
import Derived.Test.YtfjddinibppmdaaSlJ
set_option linter.all false
set_option maxRecDepth 20000
namespace Go.Proofs.Ytfjddinibppmdaa
open Go.Nk

end Go.Proofs.Ytfjddinibppmdaa

/- The document's store: Load, Keep, Write, Commit. -/
set_option linter.all false
set_option maxRecDepth 20000
namespace Go.Proofs.Ytfjddinibppmdaa
open Go.Nk

end Go.Proofs.Ytfjddinibppmdaa

