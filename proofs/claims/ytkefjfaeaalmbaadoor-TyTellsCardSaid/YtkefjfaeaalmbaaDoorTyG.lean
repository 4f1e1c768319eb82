/- A type's kind; what is kept at first. -/
import Derived.Test.YtkefjfaeaalmbaaDoorTyF
set_option linter.all false
set_option maxRecDepth 20000
namespace Go.Proofs.YtkefjfaeaalmbaaDoor
open Go.Nk

def kindOf (t : Ty) : Int := if t.k = 1 ∨ t.k = 2 then t.k else if t.k = 3 ∧ 0 ≤ t.e ∧ t.e ≤ 1000 then 3 + t.e else 0
noncomputable def s_Kind6 : List DV → Prop × DV := spec1 eTy fun t => (True, .int .i64 (kindOf t))
theorem s_Kind6_at (t : Ty) : s_Kind6 [.agg (cTy t)] = (True, .int .i64 (kindOf t)) := spec1_at inj_Ty _ _
def startF (l : List Slt) : List Int := (l.map (·.ini)).flatten
theorem startF_take {l : List Slt} {k : Nat} (h : k < l.length) : startF (l.take (k + 1)) = startF (l.take k) ++ (l.getD k default).ini := by
  have e : l.getD k default = l[k] := by simp [h]
  have e2 : l[k]? = some l[k] := List.getElem?_eq_getElem h
  rw [List.take_add_one, e, e2]
  simp only [startF, Option.toList_some, List.map_append, List.flatten_append, List.map_cons, List.map_nil, List.flatten_cons, List.flatten_nil, List.append_nil]
theorem startF_len (l : List Slt) (k : Nat) : (startF (l.take k)).length ≤ (startF l).length := by
  have : startF l = startF (l.take k) ++ startF (l.drop k) := by
    unfold startF
    rw [← List.flatten_append, ← List.map_append, List.take_append_drop]
  rw [this, List.length_append]
  omega
noncomputable def s_Start : List DV → Prop × DV := spec1 eImg fun x => (x.slots.length ≤ 1000000000 ∧ (startF x.slots).length ≤ 1000000000, .sl (ils (startF x.slots)))
theorem s_Start_at (x : Img) : s_Start [.agg (cImg x)] = (x.slots.length ≤ 1000000000 ∧ (startF x.slots).length ≤ 1000000000, .sl (ils (startF x.slots))) := spec1_at inj_Img _ _
end Go.Proofs.YtkefjfaeaalmbaaDoor
