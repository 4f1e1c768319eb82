/- Which lists of numbers a type has; how many numbers what is kept has, and what is kept at first. -/
import Derived.Test.YtkefjfaeaalmbaaDoorTyE
set_option linter.all false
set_option maxRecDepth 20000
namespace Go.Proofs.YtkefjfaeaalmbaaDoor
open Go.Nk

def rightV (l : List En) (t : Ty) (v : List Int) : Bool := rightTy l t && (v.length : Int) == cellsTy t && v.all (oneF l t)
noncomputable def s_RightV : List DV → Prop × DV := spec3 eEns eTy eIls fun l t v => (v.length ≤ 1000000000, .bool (rightV l t v))
theorem s_RightV_at (l : List En) (t : Ty) (v : List Int) : s_RightV [.sl (l.map cEn), .agg (cTy t), .sl (ils v)] = (v.length ≤ 1000000000, .bool (rightV l t v)) := spec3_at inj_Ens inj_Ty inj_Ils _ _ _ _
theorem any_notF (l : List En) (t : Ty) (v : List Int) : v.any (notF (l, t)) = !(v.all (oneF l t)) := by
  rw [List.not_all_eq_any_not]
  rfl
/-- How many numbers. -/
def sumC (l : List Slt) : Int := l.foldl (fun n s => n + cellsTy s.ty) 0
theorem cellsTy_b (t : Ty) : 1 ≤ cellsTy t ∧ cellsTy t ≤ 8 := by
  unfold cellsTy
  by_cases h1 : t.n < 1
  · rw [if_pos h1]; omega
  · rw [if_neg h1]
    by_cases h2 : 8 < t.n
    · rw [if_pos h2]; omega
    · rw [if_neg h2]; omega
theorem sumC_take {l : List Slt} {k : Nat} (h : k < l.length) : sumC (l.take (k + 1)) = sumC (l.take k) + cellsTy (l.getD k default).ty := by
  have e : l.getD k default = l[k] := by simp [h]
  have e2 : l[k]? = some l[k] := List.getElem?_eq_getElem h
  rw [List.take_add_one, e, e2]
  simp only [sumC, List.foldl_append, Option.toList_some, List.foldl_cons, List.foldl_nil]
theorem sumC_b : ∀ (l : List Slt) (k : Nat), k ≤ l.length → 0 ≤ sumC (l.take k) ∧ sumC (l.take k) ≤ 8 * k
  | l, 0, _ => by simp [sumC]
  | l, k + 1, h => by
    have ih := sumC_b l k (by omega)
    rw [sumC_take (by omega)]
    have := cellsTy_b (l.getD k default).ty
    omega
abbrev eSlts : List Slt → DV := eL cSlt
theorem inj_Slts : Inj eSlts := inj_L cSlt_inj
theorem slt_getD {l : List Slt} {j : Nat} (h : j < l.length) : (l.map cSlt).getD j [] = cSlt (l.getD j default) := by simp [h]
noncomputable def s_SumC : List DV → Prop × DV := spec1 eSlts fun l => (l.length ≤ 1000000000, .int .i64 (sumC l))
theorem s_SumC_at (l : List Slt) : s_SumC [.sl (l.map cSlt)] = (l.length ≤ 1000000000, .int .i64 (sumC l)) := spec1_at inj_Slts _ _
end Go.Proofs.YtkefjfaeaalmbaaDoor
