/- Lists of numbers, of texts, of rows: at the data level. -/
import Derived.Test.YtmdgjgnmbdmdgaaFns
import Derived.Test.YtmdgjgnmbdmdgaaNkZ3
set_option linter.all false
set_option maxRecDepth 20000
namespace Go.Proofs.Ytmdgjgnmbdmdgaa
open Go.Nk

/-- Texts, one behind the other. -/
def sls (l : List (List UInt8)) : List (List DV) := l.map fun s => [.str s]
theorem sls_len (l : List (List UInt8)) : (sls l).length = l.length := by simp [sls]
@[reducible] def eSs (l : List (List UInt8)) : DV := .sl (sls l)
/-- Numbers, one behind the other. -/
def ils (l : List Int) : List (List DV) := l.map fun n => [.int .i64 n]
theorem ils_len (l : List Int) : (ils l).length = l.length := by simp [ils]
@[reducible] def eIls (l : List Int) : DV := .sl (ils l)
theorem ils_rows (l : List Int) : ∀ e ∈ ils l, e.length = 1 := by simp [ils]
theorem ils_rowsT (l : List Int) : (∀ e ∈ ils l, e.length = 1) = True := eq_true (ils_rows l)
@[reducible] def cIls (l : List Int) : List DV := [.sl (ils l)]
abbrev eRows : List (List Int) → DV := eL cIls
theorem g_get {g t : List DObj} {o : DObj} : (g ++ (o :: t))[g.length]? = some o := lst_get
theorem g_set {g t : List DObj} {o o' : DObj} : (g ++ (o :: t)).set g.length o' = g ++ (o' :: t) := lst_set
@[reducible] def eY (b : UInt8) : DV := .int .u8 b.toNat
theorem sls_rowsT (l : List (List UInt8)) : (∀ e ∈ sls l, e.length = 1) = True := eq_true (by simp [sls])
theorem sls_tk0 (l : List (List UInt8)) : (sls l).take l.length = sls l := List.take_of_length_le (by rw [sls_len]; exact Nat.le_refl _)
theorem getD_some {α : Type} {l : List α} {k : Nat} {x d : α} (h : l[k]? = some x) : l.getD k d = x := by simp [List.getD, h]
theorem ils_tk0 (l : List Int) : (ils l).take l.length = ils l := List.take_of_length_le (by rw [ils_len]; exact Nat.le_refl _)
end Go.Proofs.Ytmdgjgnmbdmdgaa
