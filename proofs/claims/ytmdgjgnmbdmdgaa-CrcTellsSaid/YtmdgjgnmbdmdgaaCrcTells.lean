/- CrcTells: whatever the input, it answers true and its arguments read as they did. No condition. -/
import Derived.Test.YtmdgjgnmbdmdgaaCrI
import Derived.Test.YtmdgjgnmbdmdgaaRows
import Derived.Test.YtmdgjgnmbdmdgaaNkZ
import Derived.WalkKit
import Derived.ProofKit
import Derived.JoinedOf
import Derived.HandedShaped

set_option linter.all false
namespace Go.Proofs.Ytmdgjgnmbdmdgaa
open Go.Nk Go.ChangeShapes Go.WideShapes Go.RowKit

theorem crcTells_bulk (H : Type) : Bulk (H := H) Rows.uptoBulk Rows.uptoBulkAll where
  lit l := by cases l <;> simp [Rows.uptoBulk]
  str s := by simp [Rows.uptoBulk]
  nil := by simp [Rows.uptoBulk]
  ptr d := by simp [Rows.uptoBulk]
  slice a b := by simp only [Rows.uptoBulk]; omega
  agg a := by simp only [Rows.uptoBulk]; omega
  cons d r := by simp [Rows.uptoBulkAll]

theorem crcTells_own : ownKnob Try.prog.godebug = none := by kernel_rfl

set_option maxRecDepth 100000 in
theorem crcTells_lifted (os : Os) (started : os.Started) (H : Type) (enc : TypeId × Value → H) :
    ReturnsInHanded {} Try.checked os 5 .any (Rows.crcTellsSpec.pre6 enc Try.prog Try.f5 Rows.crcTellsRow.domain false) (Rows.crcTellsSpec.post enc Try.prog Try.f5 false true false false) := by
  refine returnsInHanded_of_change_shaped (C := Try.checked) crcTells_own started (by kernel_rfl) Try.func5
    (ChangeSpec.witness6 (enc := enc) (C := Try.checked) false ⟨#[], #[.slice none 0 0, .int .i64 0, .int .u32 0], []⟩ 8 (by kernel_rfl) (by kernel_rfl) (by kernel_rfl) (by kernel_rfl)) ?_
  intro W base args ds gs before hval hW _ hsz _ _
  refine law_contract (crcTells_bulk H) (tb := 4) (by kernel_rfl) (by kernel_rfl) (by kernel_rfl) rfl (fun l hl => ?_) hval hW hsz trivial fun dvs h _ => ?_
  · match l, hl with
    | [a, b, c], _ => exact ⟨rfl, rfl, rfl⟩
  · have e : Try.f5.params.toList = [24, 3, 28] := by kernel_rfl
    rw [e] at h
    exact crcTells_tells dvs h

theorem crcTells_holds : Rows.CrcTellsSaid :=
  OpenClaim.holds_of_wide 5 Try.f5 rfl rfl rfl rfl rfl rfl rfl ⟨rfl, rfl, rfl, rfl, rfl⟩ rfl rfl rfl rfl rfl (by kernel_rfl) Try.func5 (by kernel_rfl)
    (of_decide_eq_true (by kernel_rfl)) (by unfold Func.isWrapper; first | (rw [if_pos (by decide +kernel)]; kernel_rfl) | (rw [if_neg (by decide +kernel)]; exact ⟨rfl, rfl⟩))
    (fun os started H enc _ => crcTells_lifted os started H enc)
end Go.Proofs.Ytmdgjgnmbdmdgaa
