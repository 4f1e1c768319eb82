/- Which values a type has. -/
import Derived.Test.YtkefjfaeaalmbaaDoorTyD
import Derived.Test.YtkefjfaeaalmbaaDoorIdx
set_option linter.all false
set_option maxRecDepth 20000
namespace Go.Proofs.YtkefjfaeaalmbaaDoor
open Go.Nk

def oneV (l : List En) (t : Ty) (n : Int) : Bool := if t.k = 2 then n == 0 || n == 1 else t.k == 1 || (decide (0 ≤ n) && decide (n < (l.getD t.e.toNat default).ct.length))
def oneF (l : List En) (t : Ty) (n : Int) : Bool := rightTy l t && oneV l t n
noncomputable def s_One : List DV → Prop × DV := spec3 eEns eTy eI fun l t n => (True, .bool (oneF l t n))
theorem s_One_at (l : List En) (t : Ty) (n : Int) : s_One [.sl (l.map cEn), .agg (cTy t), .int .i64 n] = (True, .bool (oneF l t n)) := spec3_at inj_Ens inj_Ty inj_I _ _ _ _
theorem kind_at {l : List En} {t : Ty} (h : rightTy l t = true) : t.k = 1 ∨ t.k = 2 ∨ t.k = 3 := by
  simp only [rightTy, Bool.and_eq_true, decide_eq_true_eq] at h
  omega
@[reducible] def eREns (l : List En) : DV := .ref [.sl (l.map cEn)]
theorem inj_REns : Inj eREns := fun _ _ h => by
  injection h with h
  injection h with h _
  injection h with h
  exact map_inj cEn_inj _ _ h
@[reducible] def eRTy (t : Ty) : DV := .ref (cTy t)
theorem inj_RTy : Inj eRTy := fun _ _ h => by
  injection h with h
  exact cTy_inj _ _ h
noncomputable def s_Not1 : List DV → Prop × DV := spec3 eI eREns eRTy fun n l t => (True, .bool (!oneF l t n))
theorem s_Not1_at (n : Int) (l : List En) (t : Ty) : s_Not1 [.int .i64 n, .ref [.sl (l.map cEn)], .ref (cTy t)] = (True, .bool (!oneF l t n)) := spec3_at inj_I inj_REns inj_RTy _ _ _ _
def notF (x : List En × Ty) (n : Int) : Bool := !oneF x.1 x.2 n
end Go.Proofs.YtkefjfaeaalmbaaDoor
