/- Lists of numbers, of texts, of rows: at the data level. -/
import Derived.Test.YtnbmpdhgejppaaaDoorFns
import Derived.Test.YtnbmpdhgejppaaaDoorNkZ3
set_option linter.all false
set_option maxRecDepth 20000
namespace Go.Proofs.YtnbmpdhgejppaaaDoor
open Go.Nk

/-- Texts, one behind the other. -/
def sls (l : List (List UInt8)) : List (List DV) := l.map fun s => [.str s]
theorem sls_len (l : List (List UInt8)) : (sls l).length = l.length := by simp [sls]
theorem sls_inj {l l' : List (List UInt8)} (h : sls l = sls l') : l = l' := by
  have : ∀ x y : List UInt8, [DV.str x] = [.str y] → x = y := fun x y h => by simpa using h
  exact List.map_inj_right (fun x y => this x y) |>.1 h
@[reducible] def eSs (l : List (List UInt8)) : DV := .sl (sls l)
theorem inj_Ss : Inj eSs := fun _ _ h => sls_inj (by simpa [eSs] using h)
/-- Numbers, one behind the other. -/
def ils (l : List Int) : List (List DV) := l.map fun n => [.int .i64 n]
theorem ils_len (l : List Int) : (ils l).length = l.length := by simp [ils]
@[reducible] def eIls (l : List Int) : DV := .sl (ils l)
theorem ils_rows (l : List Int) : ∀ e ∈ ils l, e.length = 1 := by simp [ils]
theorem ils_rowsT (l : List Int) : (∀ e ∈ ils l, e.length = 1) = True := eq_true (ils_rows l)
@[reducible] def cIls (l : List Int) : List DV := [.sl (ils l)]
abbrev eRows : List (List Int) → DV := eL cIls
@[reducible] def eY (b : UInt8) : DV := .int .u8 b.toNat
theorem sls_rowsT (l : List (List UInt8)) : (∀ e ∈ sls l, e.length = 1) = True := eq_true (by simp [sls])
theorem sls_tk0 (l : List (List UInt8)) : (sls l).take l.length = sls l := List.take_of_length_le (by rw [sls_len]; exact Nat.le_refl _)
theorem getD_some {α : Type} {l : List α} {k : Nat} {x d : α} (h : l[k]? = some x) : l.getD k d = x := by simp [List.getD, h]
theorem ils_tk0 (l : List Int) : (ils l).take l.length = ils l := List.take_of_length_le (by rw [ils_len]; exact Nat.le_refl _)
end Go.Proofs.YtnbmpdhgejppaaaDoor
