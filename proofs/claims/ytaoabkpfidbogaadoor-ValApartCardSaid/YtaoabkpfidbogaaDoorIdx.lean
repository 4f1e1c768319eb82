/- Where the first of a list is that has a property. -/
import Derived.Test.YtaoabkpfidbogaaDoorFns
import Derived.Test.YtaoabkpfidbogaaDoorNkZ3
set_option linter.all false
set_option maxRecDepth 20000
namespace Go.Proofs.YtaoabkpfidbogaaDoor
open Go.Nk

def ixF (p : Int → Bool) (l : List Int) : Int := if l.any p then (l.findIdx p : Nat) else -1
theorem ixF_at {p : Int → Bool} {l : List Int} {k : Nat} (hk : k < l.length) (h : ∀ x ∈ l.take k, p x = false) (e0 : p (l.getD k 0) = true) : ixF p l = k := by
  have hg : l.getD k 0 = l[k] := by simp [hk]
  have e : p l[k] = true := hg ▸ e0
  have h1 : l.any p = true := List.any_eq_true.2 ⟨l[k], List.getElem_mem hk, e⟩
  have h2 : l.findIdx p = k := by
    refine (List.findIdx_eq hk).2 ⟨e, fun j hj => ?_⟩
    exact h _ (List.mem_take_iff_getElem.2 ⟨j, by omega, rfl⟩)
  simp [ixF, h1, h2]
theorem ixF_no {p : Int → Bool} {l : List Int} (h : ∀ x ∈ l, p x = false) : ixF p l = -1 := by
  have h1 : l.any p = false := by rw [List.any_eq_false]; intro x hx; simp [h x hx]
  simp [ixF, h1]
theorem ixF_ge (p : Int → Bool) (l : List Int) : decide (0 ≤ ixF p l) = l.any p := by
  unfold ixF
  split
  · rename_i h; rw [h]; simp
  · rename_i h; rw [Bool.not_eq_true] at h; rw [h]; rfl
theorem take_noI {p : Int → Bool} {l : List Int} {k : Nat} (hk : k < l.length) (h : ∀ x ∈ l.take k, p x = false) (e : p (l.getD k 0) = false) : ∀ x ∈ l.take (k + 1), p x = false := by
  have hg : l.getD k 0 = l[k] := by simp [hk]
  rw [hg] at e
  rw [List.take_add_one]
  intro x hx
  rcases List.mem_append.1 hx with hx | hx
  · exact h x hx
  · simp [hk] at hx; rw [hx]; exact e
end Go.Proofs.YtaoabkpfidbogaaDoor
