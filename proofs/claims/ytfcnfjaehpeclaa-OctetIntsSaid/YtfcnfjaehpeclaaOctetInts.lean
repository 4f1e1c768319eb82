/- OctetInts: whatever the input, it answers true and its arguments read as they did. No condition. -/
import Derived.Test.YtfcnfjaehpeclaaLive
import Derived.Test.YtfcnfjaehpeclaaRows
import Derived.Test.YtfcnfjaehpeclaaNkX
import Derived.WalkKit
import Derived.ProofKit
import Derived.JoinedOf
set_option linter.unusedSimpArgs false
set_option linter.unusedVariables false
namespace Go.Proofs.Ytfcnfjaehpeclaa
open Go.Nk Go.ChangeShapes Go.WideShapes Go.RowKit

theorem bulk (H : Type) : Bulk (H := H) Rows.uptoBulk Rows.uptoBulkAll where
  lit l := by cases l <;> simp [Rows.uptoBulk]
  str s := by simp [Rows.uptoBulk]
  nil := by simp [Rows.uptoBulk]
  ptr d := by simp [Rows.uptoBulk]
  slice a b := by simp only [Rows.uptoBulk]; omega
  agg a := by simp only [Rows.uptoBulk]; omega
  cons d r := by simp [Rows.uptoBulkAll]

theorem own : ownKnob Try.prog.godebug = none := by kernel_rfl

theorem ints_tells (dvs : List DV) (h : HasAll Try.prog [2, 22] dvs) : TellsP Try.prog 3 dvs (.bool true) := by
  obtain ⟨d1, r, rfl, h1, d2, r', rfl, h2, rfl⟩ := h
  obtain ⟨x, rfl, hw⟩ := HasV_int Try.underlying2 h1
  obtain ⟨l, rfl, hl⟩ := HasV_bytes Try.underlying22 Try.underlying5 h2
  have hx : -9223372036854775808 ≤ x ∧ x ≤ 9223372036854775807 := by simpa [Lit.wf, IntKind.min, IntKind.max, IntKind.signed, IntKind.bits] using hw
  have e : C15.p 3 [.int .i64 x, .sl (bsl l)] = (-9223372036854775808 ≤ x ∧ x < 9223372036854775808 ∧ small l, .bool true) := by
    refine (addP_same _ _ _ _).trans ?_
    simp only [sOctetInts, unb_bsl]
  have := ok15.p 3 [.int .i64 x, .sl (bsl l)] (by
    rw [e]
    have : maxLen < 9223372036854775808 := by decide
    exact ⟨hx.1, by omega, small_of (by omega)⟩)
  rw [e] at this
  exact this.2

set_option maxRecDepth 100000 in
theorem ints_lifted (os : Os) (started : os.Started) (H : Type) (enc : TypeId × Value → H) :
    ReturnsInHanded {} Try.checked os 3 .any (Rows.octetIntsSpec.pre6 enc Try.prog Try.f3 Rows.octetIntsRow.domain false) (Rows.octetIntsSpec.post enc Try.prog Try.f3 false true false false) := by
  refine returnsInHanded_of_change (C := Try.checked) own started (by kernel_rfl) Try.func3
    (ChangeSpec.witness6 (enc := enc) (C := Try.checked) false ⟨#[], #[.int .i64 0, .slice none 0 0], []⟩ 8 (by kernel_rfl) (by kernel_rfl) (by kernel_rfl) (by kernel_rfl)) ?_
  intro W base args ds gs before hval hW _ _
  refine law_contract (bulk H) (tb := 4) (by kernel_rfl) (by kernel_rfl) Try.underlying4 rfl (fun l hl => ?_) hval hW fun dvs h _ => ?_
  · match l, hl with
    | [a, b], _ => exact ⟨rfl, rfl, rfl⟩
  · have e : Try.f3.params.toList = [2, 22] := by kernel_rfl
    rw [e] at h
    exact ints_tells dvs h

theorem octetInts_holds : Rows.OctetIntsSaid :=
  OpenClaim.holds_of_wide 3 Try.f3 rfl rfl rfl rfl rfl rfl rfl ⟨rfl, rfl, rfl, rfl, rfl⟩ rfl rfl rfl rfl rfl (by kernel_rfl) Try.func3 (by kernel_rfl)
    (of_decide_eq_true (by kernel_rfl)) (by unfold Func.isWrapper; first | (rw [if_pos (by decide +kernel)]; kernel_rfl) | (rw [if_neg (by decide +kernel)]; exact ⟨rfl, rfl⟩))
    (fun os started H enc _ => ints_lifted os started H enc)
end Go.Proofs.Ytfcnfjaehpeclaa
