/- TyOrders: whatever the input, it answers true and its arguments read as they did; the variables that the row lists are tied to the program's text. No condition. -/
import Derived.Test.YtkefjfaeaalmbaaDoorOnH
import Derived.Test.YtkefjfaeaalmbaaDoorRows
import Derived.Test.YtkefjfaeaalmbaaDoorCards
import Derived.Test.YtkefjfaeaalmbaaDoorTie
import Derived.Test.YtkefjfaeaalmbaaDoorNkZ
import Derived.WalkKit
import Derived.ProofKit
import Derived.JoinedOf
import Derived.HandedShaped
import Derived.LaidMore
import Derived.OpenShut
import Derived.Stop.Joined
import Derived.SevenTiedAt

set_option linter.all false
namespace Go.Proofs.YtkefjfaeaalmbaaDoor
open Go.Nk Go.ChangeShapes Go.WideShapes Go.ChangeAt Go.RowKit

theorem tyOrders_bulk (H : Type) : Bulk (H := H) Rows.uptoBulk Rows.uptoBulkAll where
  lit l := by cases l <;> simp [Rows.uptoBulk]
  str s := by simp [Rows.uptoBulk]
  nil := by simp [Rows.uptoBulk]
  ptr d := by simp [Rows.uptoBulk]
  slice a b := by simp only [Rows.uptoBulk]; omega
  agg a := by simp only [Rows.uptoBulk]; omega
  cons d r := by simp [Rows.uptoBulkAll]

theorem tyOrders_own : ownKnob Tryd.prog.godebug = none := by kernel_rfl
set_option maxRecDepth 100000 in
/-- The door's own heap meets the condition. -/
theorem tyOrders_door (os : Os) (args : Array Value) : laidMetH Tryd.prog [("math/bits.deBruijn32tab", Rows.laid_math_bits_deBruijn32tab), ("math/bits.deBruijn64tab", Rows.laid_math_bits_deBruijn64tab), ("internal/strconv.uint64pow10", Rows.laid_internal_strconv_uint64pow10)] ((World.doorLaid Tryd.prog 4000 os).forCall (fun _ _ => 0) ⟨#[], args, []⟩).memory :=
  laidMetH_of_parts3 (fuel := 8) (laidMet_of_run' 8 (by kernel_rfl) (by kernel_rfl)) (by kernel_rfl) (by kernel_rfl)

set_option maxRecDepth 100000 in
theorem tyOrders_lifted (os : Os) (started : os.Started) (H : Type) (enc : TypeId × Value → H) :
    ReturnsInHanded {} Tryd.checked os 6 .any (fun w args => (Rows.tyOrdersSpec.pre enc Tryd.prog Tryd.f6 [] false w args ∧ laidMetH Tryd.prog [("math/bits.deBruijn32tab", Rows.laid_math_bits_deBruijn32tab), ("math/bits.deBruijn64tab", Rows.laid_math_bits_deBruijn64tab), ("internal/strconv.uint64pow10", Rows.laid_internal_strconv_uint64pow10)] w) ∧ sizedMet enc Tryd.prog Tryd.f6 (OpenSpec.ofChange Rows.tyOrdersSpec) false w args)
      (Rows.tyOrdersSpec.post enc Tryd.prog Tryd.f6 false true false false) := by
  refine returnsInHanded_of_change_and (C := Tryd.checked) (X := fun w _ => laidMetH Tryd.prog [("math/bits.deBruijn32tab", Rows.laid_math_bits_deBruijn32tab), ("math/bits.deBruijn64tab", Rows.laid_math_bits_deBruijn64tab), ("internal/strconv.uint64pow10", Rows.laid_internal_strconv_uint64pow10)] w) (fun _ _ _ hh h => h.of_heap hh) tyOrders_own started (by kernel_rfl) Tryd.func6
    (ChangeSpec.witness_shaped (enc := enc) (C := Tryd.checked) (os := os) (X := fun w _ => laidMetH Tryd.prog [("math/bits.deBruijn32tab", Rows.laid_math_bits_deBruijn32tab), ("math/bits.deBruijn64tab", Rows.laid_math_bits_deBruijn64tab), ("internal/strconv.uint64pow10", Rows.laid_internal_strconv_uint64pow10)] w) false (World.doorLaid Tryd.prog 4000 os) #[.slice none 0 0, .slice none 0 0, .agg #[.int .i64 0, .int .i64 0, .int .i64 0, .int .i64 0, .int .i64 0, .int .i64 0]] 8 rfl (World.shaped_of_RefB (by kernel_rfl) (by kernel_rfl)) (by kernel_rfl) (by kernel_rfl) (by kernel_rfl) (tyOrders_door os _)) ?_
  intro W base args ds gs before hval hW _ hsz _ _
  refine law_contract (tyOrders_bulk H) (tb := 4) (by kernel_rfl) (by kernel_rfl) (by kernel_rfl) rfl (fun l hl => ?_) hval hW hsz fun dvs h _ => ?_
  · match l, hl with
    | [a, b, c], _ => exact ⟨rfl, rfl, rfl⟩
  · have e : Tryd.f6.params.toList = [22, 22, 25] := by kernel_rfl
    rw [e] at h
    exact tyOrders_tells dvs h

theorem tyOrders_row : Rows.TyOrdersSaid :=
  OpenClaim.holds_of_wide 6 Tryd.f6 rfl rfl rfl rfl rfl rfl rfl ⟨rfl, rfl, rfl, rfl, rfl⟩ rfl rfl rfl rfl rfl (by kernel_rfl) Tryd.func6 (by kernel_rfl)
    (of_decide_eq_true (by kernel_rfl)) (by unfold Func.isWrapper; first | (rw [if_pos (by decide +kernel)]; kernel_rfl) | (rw [if_neg (by decide +kernel)]; exact ⟨rfl, rfl⟩))
    (fun os started H enc _ => tyOrders_lifted os started H enc)

theorem tyOrders_holds : Rows.TyOrdersCardSaid :=
  Claim7.holds_tied_plain_at .later [] [.data, .data, .data] true (true, "4ad8ddd939955def7587c1e9f46b28bc8683f5fac3e348caa5732a9a0f0c3d60") false
    tyOrders_row (fun _ h => by cases h) (by kernel_rfl) (fun _ h => by cases h) tyOrders_row_tie rfl ⟨rfl, rfl⟩ (by kernel_rfl) rfl
    (fun f fn hf hfn => by
      obtain rfl : f = 6 := Option.some.inj ((show Tryd.prog.funcNamed "noria/norialaw05.TyOrders" = some 6 by kernel_rfl).symm.trans hf) |>.symm
      obtain rfl : fn = Tryd.f6 := (Option.some.inj (Tryd.func6.symm.trans hfn)).symm
      exact ⟨by kernel_rfl, fun j t ht => by
        rw [Tryd.params6] at ht
        have hm : t ∈ [22, 22, 25] := by simpa using Array.mem_of_getElem? ht
        have hall : ([22, 22, 25].all fun u => !Tryd.prog.wantsStandIn u) = true := by kernel_rfl
        exact (show Tryd.prog.wantsStandIn t = false by simpa using List.all_eq_true.1 hall t hm)⟩)
    (by kernel_rfl)
end Go.Proofs.YtkefjfaeaalmbaaDoor
