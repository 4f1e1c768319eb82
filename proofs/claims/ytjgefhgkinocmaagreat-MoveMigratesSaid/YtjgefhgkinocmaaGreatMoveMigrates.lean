/- MoveMigrates: whatever the input, it answers true and its arguments read as they did. No condition. -/
import Derived.Test.YtjgefhgkinocmaaGreatMhA
import Derived.Test.YtjgefhgkinocmaaGreatRows
import Derived.Test.YtjgefhgkinocmaaGreatNkZ3
import Derived.WalkKit
import Derived.ProofKit
import Derived.JoinedOf
import Derived.HandedShaped
set_option linter.all false
namespace Go.Proofs.YtjgefhgkinocmaaGreat
open Go.Nk Go.ChangeShapes Go.WideShapes Go.RowKit
theorem moveMigrates_bulk (H : Type) : Bulk (H := H) Rows.uptoBulk Rows.uptoBulkAll where
 lit l := by cases l <;> simp [Rows.uptoBulk]
 str s := by simp [Rows.uptoBulk]
 nil := by simp [Rows.uptoBulk]
 ptr d := by simp [Rows.uptoBulk]
 slice a b := by simp only [Rows.uptoBulk]; omega
 agg a := by simp only [Rows.uptoBulk]; omega
 cons d r := by simp [Rows.uptoBulkAll]
theorem moveMigrates_own : ownKnob Tryz.prog.godebug = none := by kernel_rfl
set_option maxRecDepth 100000 in
theorem moveMigrates_lifted (os : Os) (started : os.Started) (H : Type) (enc : TypeId × Value -> H) :
   ReturnsInHanded {} Tryz.checked os 3 .any (Rows.moveMigratesSpec.pre6 enc Tryz.prog Tryz.f3 Rows.moveMigratesRow.domain false) (Rows.moveMigratesSpec.post enc Tryz.prog Tryz.f3 false true false false) := by
 refine returnsInHanded_of_change_shaped (C := Tryz.checked) moveMigrates_own started (by kernel_rfl) Tryz.func3
   (ChangeSpec.witness6 (enc := enc) (C := Tryz.checked) false ⟨#[],#[.agg #[.slice none 0 0,.slice none 0 0,.slice none 0 0,.slice none 0 0,.slice none 0 0,.slice none 0 0],.agg #[.slice none 0 0,.slice none 0 0,.slice none 0 0,.slice none 0 0,.slice none 0 0,.slice none 0 0],.agg #[.slice none 0 0,.slice none 0 0]],[]⟩ 8 (by kernel_rfl) (by kernel_rfl) (by kernel_rfl) (by kernel_rfl)) ?_
 intro W base args ds gs before hval hW _ hsz _ _
 refine z2p (moveMigrates_bulk H) (tb := 4) (by kernel_rfl) (by kernel_rfl) (by kernel_rfl) rfl (fun l hl => ?_) hval hW hsz trivial fun dvs h _ => ?_
 . match l,hl with
   | [a,b,c],_ => exact ⟨rfl,rfl,rfl⟩
 . have e : Tryz.f3.params.toList = [28,28,32] := by kernel_rfl
   rw [e] at h
   exact moveMigrates_tells dvs h
theorem moveMigrates_holds : Rows.MoveMigratesSaid :=
 OpenClaim.holds_of_wide 3 Tryz.f3 rfl rfl rfl rfl rfl rfl rfl ⟨rfl,rfl,rfl,rfl,rfl⟩ rfl rfl rfl rfl rfl (by kernel_rfl) Tryz.func3 (by kernel_rfl)
   (of_decide_eq_true (by kernel_rfl)) (by unfold Func.isWrapper; first | (rw [if_pos (by decide +kernel)]; kernel_rfl) | (rw [if_neg (by decide +kernel)]; exact ⟨rfl,rfl⟩))
   (fun os started H enc _ => moveMigrates_lifted os started H enc)
end Go.Proofs.YtjgefhgkinocmaaGreat
