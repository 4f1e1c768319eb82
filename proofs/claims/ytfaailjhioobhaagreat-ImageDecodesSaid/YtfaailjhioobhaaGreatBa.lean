/- Lists of numbers, of texts, of rows: at the data level. -/
import Derived.Test.YtfaailjhioobhaaGreatFns
import Derived.Test.YtfaailjhioobhaaGreatNkZ3
set_option linter.all false
set_option maxRecDepth 20000
namespace Go.Proofs.YtfaailjhioobhaaGreat
open Go.Nk
def sls (l : List (List UInt8)) : List (List DV) := l.map fun s => [.str s]
theorem zek (l : List (List UInt8)) : (sls l).length = l.length := by simp [sls]
theorem z91 {l l' : List (List UInt8)} (h : sls l = sls l') : l = l' := by
 have : ∀ x y : List UInt8,[DV.str x] = [.str y] → x = y := fun x y h => by simpa using h
 exact List.map_inj_right (fun x y => this x y) |>.1 h
theorem zsw {l : List (List UInt8)} {i : Nat} (h : i < l.length) : (sls l).getD i [] = [.str (l.getD i [])] := by
 simp [sls,h]
@[reducible] def eSs (l : List (List UInt8)) : DV := .sl (sls l)
theorem inj_Ss : Inj eSs := fun _ _ h => z91 (by simpa [eSs] using h)
theorem z4f {a b : List (List UInt8)} {k : Nat} (ha : k < a.length) (hb : k < b.length) (h : a.take k = b.take k) (e : a.getD k [] = b.getD k []) : a.take (k + 1) = b.take (k + 1) := by
 rw [List.take_add_one,List.take_add_one,h]
 simp only [List.getD_eq_getElem?_getD,List.getElem?_eq_getElem ha,List.getElem?_eq_getElem hb,Option.getD_some] at e
 simp [ha,hb,e]
def ils (l : List Int) : List (List DV) := l.map fun n => [.int .i64 n]
theorem zbq (l : List Int) : (ils l).length = l.length := by simp [ils]
theorem z2x {l l' : List Int} (h : ils l = ils l') : l = l' := by
 have : ∀ x y : Int,[DV.int .i64 x] = [.int .i64 y] → x = y := fun x y h => by simpa using h
 exact List.map_inj_right (fun x y => this x y) |>.1 h
@[reducible] def eIls (l : List Int) : DV := .sl (ils l)
theorem zrt {l : List Int} {k : Nat} {x : Int} (h : l[k]? = some x) : (ils l).getD k [] = [.int .i64 x] := by
 unfold ils; exact za8 _ h
theorem sls_at {l : List (List UInt8)} {k : Nat} {x : List UInt8} (h : l[k]? = some x) : (sls l).getD k [] = [.str x] := by
 unfold sls; exact za8 _ h
theorem g_get {g t : List DObj} {o : DObj} : (g ++ (o :: t))[g.length]? = some o := yb0
theorem g_set {g t : List DObj} {o o' : DObj} : (g ++ (o :: t)).set g.length o' = g ++ (o' :: t) := ybe
theorem getD_some {α : Type} {l : List α} {k : Nat} {x d : α} (h : l[k]? = some x) : l.getD k d = x := by simp [List.getD,h]
end Go.Proofs.YtfaailjhioobhaaGreat
