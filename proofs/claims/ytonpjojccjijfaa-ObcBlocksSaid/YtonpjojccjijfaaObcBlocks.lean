/- ObcBlocks: whatever the input, it answers true and its arguments read as they did. No condition. -/
import Derived.Test.YtonpjojccjijfaaObcBl
import Derived.Test.YtonpjojccjijfaaRows
import Derived.Test.YtonpjojccjijfaaNkZ
import Derived.WalkKit
import Derived.ProofKit
import Derived.JoinedOf
import Derived.HandedShaped

set_option linter.all false
namespace Go.Proofs.Ytonpjojccjijfaa
open Go.Nk Go.ChangeShapes Go.WideShapes Go.RowKit

theorem obcBlocks_bulk (H : Type) : Bulk (H := H) Rows.uptoBulk Rows.uptoBulkAll where
  lit l := by cases l <;> simp [Rows.uptoBulk]
  str s := by simp [Rows.uptoBulk]
  nil := by simp [Rows.uptoBulk]
  ptr d := by simp [Rows.uptoBulk]
  slice a b := by simp only [Rows.uptoBulk]; omega
  agg a := by simp only [Rows.uptoBulk]; omega
  cons d r := by simp [Rows.uptoBulkAll]

theorem obcBlocks_own : ownKnob Try.prog.godebug = none := by kernel_rfl

set_option maxRecDepth 100000 in
theorem obcBlocks_lifted (os : Os) (started : os.Started) (H : Type) (enc : TypeId × Value → H) :
    ReturnsInHanded {} Try.checked os 4 .any (Rows.obcBlocksSpec.pre6 enc Try.prog Try.f4 Rows.obcBlocksRow.domain false) (Rows.obcBlocksSpec.post enc Try.prog Try.f4 false true false false) := by
  refine returnsInHanded_of_change_shaped (C := Try.checked) obcBlocks_own started (by kernel_rfl) Try.func4
    (ChangeSpec.witness6 (enc := enc) (C := Try.checked) false ⟨#[], #[.agg #[.string ⟨#[]⟩, .slice none 0 0, .slice none 0 0, .slice none 0 0, .slice none 0 0]], []⟩ 8 (by kernel_rfl) (by kernel_rfl) (by kernel_rfl) (by kernel_rfl)) ?_
  intro W base args ds gs before hval hW _ hsz _ _
  refine law_contract (obcBlocks_bulk H) (tb := 4) (by kernel_rfl) (by kernel_rfl) (by kernel_rfl) rfl (fun l hl => ?_) hval hW hsz trivial fun dvs h _ => ?_
  · match l, hl with
    | [a], _ => exact ⟨rfl, rfl, rfl⟩
  · have e : Try.f4.params.toList = [31] := by kernel_rfl
    rw [e] at h
    exact obcBlocks_tells dvs h

theorem obcBlocks_holds : Rows.ObcBlocksSaid :=
  OpenClaim.holds_of_wide 4 Try.f4 rfl rfl rfl rfl rfl rfl rfl ⟨rfl, rfl, rfl, rfl, rfl⟩ rfl rfl rfl rfl rfl (by kernel_rfl) Try.func4 (by kernel_rfl)
    (of_decide_eq_true (by kernel_rfl)) (by unfold Func.isWrapper; first | (rw [if_pos (by decide +kernel)]; kernel_rfl) | (rw [if_neg (by decide +kernel)]; exact ⟨rfl, rfl⟩))
    (fun os started H enc _ => obcBlocks_lifted os started H enc)
end Go.Proofs.Ytonpjojccjijfaa
