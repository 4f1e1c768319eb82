/- Which images have the same inputs and outputs. -/
import Derived.Test.YtkefjfaeaalmbaaDoorTyC
set_option linter.all false
set_option maxRecDepth 20000
namespace Go.Proofs.YtkefjfaeaalmbaaDoor
open Go.Nk

def okImg (x : Img) : Prop := fewEn x.en ∧ x.ins.length ≤ 1000000000 ∧ x.outs.length ≤ 1000000000
def sameF (a b : Img) : Bool := portsF a.en a.ins b.en b.ins && portsF a.en a.outs b.en b.outs
noncomputable def s_SameI : List DV → Prop × DV := spec2 eImg eImg fun a b => (okImg a ∧ okImg b, .bool (sameF a b))
theorem s_SameI_at (a b : Img) : s_SameI [.agg (cImg a), .agg (cImg b)] = (okImg a ∧ okImg b, .bool (sameF a b)) := spec2_at inj_Img inj_Img _ _ _
end Go.Proofs.YtkefjfaeaalmbaaDoor
