/- An instruction's four numbers. -/
import Derived.Test.YtjgefhgkinocmaaGreatFns
import Derived.Test.YtjgefhgkinocmaaGreatNkZ3
set_option linter.all false
set_option maxRecDepth 20000
namespace Go.Proofs.YtjgefhgkinocmaaGreat
open Go.Nk
structure In4 where
 op : Int
 a : Int
 b : Int
 n : Int
 deriving DecidableEq
instance : Inhabited In4 := ⟨⟨0,0,0,0⟩⟩
set_option linter.all false
set_option maxRecDepth 20000
open Go.Nk
def sls (l : List (List UInt8)) : List (List DV) := l.map fun s => [.str s]
theorem z7 (l : List (List UInt8)) : (sls l).length = l.length := by simp [sls]
theorem z6r {l l' : List (List UInt8)} (h : sls l = sls l') : l = l' := by
 have : ∀ x y : List UInt8,[DV.str x] = [.str y] -> x = y := fun x y h => by simpa using h
 exact List.map_inj_right (fun x y => this x y) |>.1 h
theorem zoc {l : List (List UInt8)} {i : Nat} (h : i < l.length) : (sls l).getD i [] = [.str (l.getD i [])] := by
 simp [sls,h]
@[reducible] def eSs (l : List (List UInt8)) : DV := .sl (sls l)
theorem yfg : Inj eSs := fun _ _ h => z6r (by simpa [eSs] using h)
theorem z8r {a b : List (List UInt8)} {k : Nat} (ha : k < a.length) (hb : k < b.length) (h : a.take k = b.take k) (e : a.getD k [] = b.getD k []) : a.take (k + 1) = b.take (k + 1) := by
 rw [List.take_add_one,List.take_add_one,h]
 simp only [List.getD_eq_getElem?_getD,List.getElem?_eq_getElem ha,List.getElem?_eq_getElem hb,Option.getD_some] at e
 simp [ha,hb,e]
def ils (l : List Int) : List (List DV) := l.map fun n => [.int .i64 n]
theorem zae (l : List Int) : (ils l).length = l.length := by simp [ils]
theorem zjx {l l' : List Int} (h : ils l = ils l') : l = l' := by
 have : ∀ x y : Int,[DV.int .i64 x] = [.int .i64 y] -> x = y := fun x y h => by simpa using h
 exact List.map_inj_right (fun x y => this x y) |>.1 h
theorem ils_getD {l : List Int} {i : Nat} (h : i < l.length) : (ils l).getD i [] = [.int .i64 (l.getD i 0)] := by
 simp [ils,h]
@[reducible] def eIls (l : List Int) : DV := .sl (ils l)
theorem zl3 : Inj eIls := fun _ _ h => zjx (by simpa [eIls] using h)
theorem zpu (a b : List Int) : ils a ++ ils b = ils (a ++ b) := by simp [ils]
theorem z9c (l : List Int) : ∀ e ∈ ils l,e.length = 1 := by simp [ils]
theorem z8i {α : Type} {p : α -> Bool} {l : List α} {d0 : α} {k : Nat} (hk : k < l.length) (h : ∀ x ∈ l.take k,p x = true) (e : p (l.getD k d0) = true) : ∀ x ∈ l.take (k + 1),p x = true := by
 have hg : l.getD k d0 = l[k] := by simp [hk]
 rw [hg] at e
 have e2 : l[k]? = some l[k] := List.getElem?_eq_getElem hk
 rw [List.take_add_one,e2]
 intro x hx
 rcases List.mem_append.1 hx with hx | hx
 . exact h x hx
 . simp at hx; rw [hx]; exact e
theorem ygz {α : Type} {p : α -> Bool} {l : List α} {d0 : α} {k : Nat} (hk : k < l.length) (e : p (l.getD k d0) = false) : l.all p = false := by
 have hg : l.getD k d0 = l[k] := by simp [hk]
 rw [hg] at e
 rw [List.all_eq_false]
 exact ⟨l[k],List.getElem_mem hk,by simp [e]⟩
theorem z8d {α : Type} {p : α -> Bool} {l : List α} {k : Nat} (hk : ¬ k < l.length) (h : ∀ x ∈ l.take k,p x = true) : l.all p = true := by
 rw [List.take_of_length_le (by omega)] at h
 exact List.all_eq_true.2 h
theorem z4t (l : List Int) : (∀ e ∈ ils l,e.length = 1) = True := eq_true (z9c l)
theorem ils_at {l : List Int} {k : Nat} {x : Int} (h : l[k]? = some x) : (ils l).getD k [] = [.int .i64 x] := by
 unfold ils; exact zm _ h
theorem yg5 {l : List (List UInt8)} {k : Nat} {x : List UInt8} (h : l[k]? = some x) : (sls l).getD k [] = [.str x] := by
 unfold sls; exact zm _ h
theorem zkv (l : List Int) (x : Int) : ils l ++ [[.int .i64 x]] = ils (l ++ [x]) := by simp [ils]
theorem zv9 {hp : List DObj} {l : List Int} {a b : Int} (h1 : 0 <= a) (h2 : a <= b) (h3 : b <= l.length) : zc2 hp 1 (.sl (ils l)) (some (.int .i64 a)) (some (.int .i64 b)) none = (True,.sl (ils ((l.take b.toNat).drop a.toNat))) := by
 simp only [zc2,zbq,zae,Option.isSome_none,Prod.mk.injEq]
 refine ⟨eq_true ⟨z9c l,trivial,trivial,trivial,by simp,h1,h2,Int.le_refl _,h3⟩,?_⟩
 simp [ils]
@[reducible] def eY (b : UInt8) : DV := .int .u8 b.toNat
theorem ya7 : Inj eY := fun x y h => by
 injection h with _ h
 exact UInt8.toNat_inj.1 (by omega)
theorem yfz (l : List (List UInt8)) : (∀ e ∈ sls l,e.length = 1) = True := eq_true (by simp [sls])
theorem zwo (l : List (List UInt8)) : (sls l).take l.length = sls l := List.take_of_length_le (by rw [z7]; exact Nat.le_refl _)
theorem ybo (a b : List (List UInt8)) : sls a ++ sls b = sls (a ++ b) := by simp [sls]
theorem ztn (a : List (List UInt8)) (s : List UInt8) : sls a ++ [[.str s]] = sls (a ++ [s]) := by simp [sls]
theorem zvg {l : List (List UInt8)} {k : Nat} {x : List UInt8} (h : l[k]? = some x) : (sls l).getD k [] = [.str x] := by
 unfold sls; exact zm _ h
theorem getD_some {α : Type} {l : List α} {k : Nat} {x d : α} (h : l[k]? = some x) : l.getD k d = x := by simp [List.getD,h]
theorem beq95 (x : UInt8) : ((x.toNat : Int) != 95) = !(x == 95) := by
 have := z8s x 95
 simpa [bne] using this
theorem z0b (l : List Int) : (ils l).take l.length = ils l := List.take_of_length_le (by rw [zae]; exact Nat.le_refl _)
end Go.Proofs.YtjgefhgkinocmaaGreat
