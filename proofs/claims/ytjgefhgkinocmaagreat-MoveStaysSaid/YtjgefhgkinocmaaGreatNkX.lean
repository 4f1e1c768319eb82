/- What arguments of the plain types are at the data level. -/
import Derived.Test.YtjgefhgkinocmaaGreatNkW
set_option linter.all false
namespace Go.Nk
section
variable {P : Program} {t e : TypeId} {d : DV}

theorem bytes_rows : ∀ es : List (List DV), (∀ x ∈ es, ∃ i, x = [.int .u8 i] ∧ (Lit.int .u8 i).wf = true) → ∃ l, es = bsl l
  | [], _ => ⟨[], rfl⟩
  | x :: es, h => by
    obtain ⟨l, rfl⟩ := bytes_rows es fun y hy => h y (by simp [hy])
    obtain ⟨i, rfl, hw⟩ := h x (by simp)
    have hi : 0 ≤ i ∧ i ≤ 255 := by simpa [Lit.wf, IntKind.min, IntKind.max, IntKind.signed, IntKind.bits] using hw
    refine ⟨UInt8.ofNat i.toNat :: l, ?_⟩
    simp only [bsl, List.map_cons, List.cons.injEq, DV.int.injEq, true_and, and_true]
    rw [UInt8.toNat_ofNat']
    omega

end
end Go.Nk
