/- What arguments of the plain types are at the data level. -/
import Derived.Test.YtaoabkpfidbogaaDoorNkW
set_option linter.all false
namespace Go.Nk
section
variable {P : Program} {t e : TypeId} {d : DV}

theorem HasV_int {k : IntKind} (ht : P.underlying t = some (.int k)) (h : HasV P t d) : ∃ i, d = .int k i ∧ (Lit.int k i).wf = true := by
  have hsm := h.2
  have h := h.1
  unfold HasV0 at h
  rw [ht] at h
  simp only [Has, ht] at h
  obtain ⟨i, hi, hw⟩ := h
  cases hi
  exact ⟨i, rfl, hw⟩

theorem HasV_bool (ht : P.underlying t = some .bool) (h : HasV P t d) : ∃ b, d = .bool b := by
  have hsm := h.2
  have h := h.1
  unfold HasV0 at h
  rw [ht] at h
  simp only [Has, ht] at h
  obtain ⟨i, hi⟩ := h
  cases hi
  exact ⟨i, rfl⟩

theorem HasV_str (ht : P.underlying t = some .string) (h : HasV P t d) : ∃ s, d = .str s ∧ s.length ≤ capLen := by
  have hsm := h.2
  have h := h.1
  unfold HasV0 at h
  rw [ht] at h
  simp only [Has, ht] at h
  obtain ⟨i, hi, hw⟩ := h
  cases hi
  exact ⟨i, rfl, hsm _ (by simp [DV.lens])⟩

theorem HasV_slice (ht : P.underlying t = some (.slice e)) (h : HasV P t d) : ∃ es, d = .sl es ∧ es.length ≤ capLen ∧ ∀ x ∈ es, Has P 7 e x := by
  have hsm := h.2
  have h := h.1
  unfold HasV0 at h
  rw [ht] at h
  unfold Has at h
  simp only [ht] at h
  obtain ⟨es, hi, hw⟩ := h
  cases hi
  exact ⟨es, rfl, Nat.le_trans (lenW_ge es) (hsm _ (by simp [DV.lens])), hw.2⟩

theorem bytes_rows : ∀ es : List (List DV), (∀ x ∈ es, ∃ i, x = [.int .u8 i] ∧ (Lit.int .u8 i).wf = true) → ∃ l, es = bsl l
  | [], _ => ⟨[], rfl⟩
  | x :: es, h => by
    obtain ⟨l, rfl⟩ := bytes_rows es fun y hy => h y (by simp [hy])
    obtain ⟨i, rfl, hw⟩ := h x (by simp)
    have hi : 0 ≤ i ∧ i ≤ 255 := by simpa [Lit.wf, IntKind.min, IntKind.max, IntKind.signed, IntKind.bits] using hw
    refine ⟨UInt8.ofNat i.toNat :: l, ?_⟩
    simp only [bsl, List.map_cons, List.cons.injEq, DV.int.injEq, true_and, and_true]
    rw [UInt8.toNat_ofNat']
    omega

theorem HasV_bytes (ht : P.underlying t = some (.slice e)) (he : P.underlying e = some (.int .u8)) (h : HasV P t d) : ∃ l, d = .sl (bsl l) ∧ l.length ≤ capLen := by
  obtain ⟨es, rfl, hl, hr⟩ := HasV_slice ht h
  obtain ⟨l, rfl⟩ := bytes_rows es fun x hx => by
    have := hr x hx
    unfold Has at this
    simpa only [he] using this
  exact ⟨l, rfl, by simpa [bsl_length] using hl⟩
end
end Go.Nk
