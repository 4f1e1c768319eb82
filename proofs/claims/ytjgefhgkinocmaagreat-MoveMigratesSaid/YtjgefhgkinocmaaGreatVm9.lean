/- The run of the reference: its steps. -/
import Derived.Test.YtjgefhgkinocmaaGreatVm6
set_option linter.all false
set_option maxRecDepth 20000
namespace Go.Proofs.YtjgefhgkinocmaaGreat
open Go.Nk
structure RS where
 M : List Int
 S : List Int
 pc : Int
 e : Int
section
variable {hp t : List DObj} {n m : Nat} {v : RS}
end
structure okR (v : RS) : Prop where
 s : v.S.length <= 16
 p0 : 0 <= v.pc
 p1 : v.pc <= 1000000000
 c : v.M.length <= 1000000
 si : ∀ x ∈ v.S,in64 x
 ci : ∀ x ∈ v.M,in64 x
set_option linter.all false
set_option maxRecDepth 20000
open Go.Nk
def Sim (v : MS) (r : RS) : Prop := r.M = v.cells /\ r.S = v.raw.take v.hi.toNat /\ r.pc = v.pc
section
variable {v : MS} {r : RS} (h : okM v) (s : Sim v r)
include h s
end
set_option linter.all false
set_option maxRecDepth 20000
open Go.Nk
end Go.Proofs.YtjgefhgkinocmaaGreat
