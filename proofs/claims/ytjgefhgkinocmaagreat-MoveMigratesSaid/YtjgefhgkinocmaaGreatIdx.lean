/- Where the first of a list is that has a property. -/
import Derived.Test.YtjgefhgkinocmaaGreatFns
import Derived.Test.YtjgefhgkinocmaaGreatNkZ3
set_option linter.all false
set_option maxRecDepth 20000
namespace Go.Proofs.YtjgefhgkinocmaaGreat
open Go.Nk
theorem take_noI {p : Int -> Bool} {l : List Int} {k : Nat} (hk : k < l.length) (h : ∀ x ∈ l.take k,p x = false) (e : p (l.getD k 0) = false) : ∀ x ∈ l.take (k + 1),p x = false := by
 have hg : l.getD k 0 = l[k] := by simp [hk]
 rw [hg] at e
 rw [List.take_add_one]
 intro x hx
 rcases List.mem_append.1 hx with hx | hx
 . exact h x hx
 . simp [hk] at hx; rw [hx]; exact e
end Go.Proofs.YtjgefhgkinocmaaGreat
