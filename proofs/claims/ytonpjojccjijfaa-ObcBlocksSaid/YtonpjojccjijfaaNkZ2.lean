/- What a function leaves behind that nobody names is forgotten at its end. Structs whose one field is a slice of their own: two objects. -/
import Derived.Test.YtonpjojccjijfaaNkZ1
set_option linter.all false
namespace Go.Nk
open Go.RowKit

/-- What is asked of an end, when what was made meanwhile is forgotten. -/
def EndC (res : List DR) (r : DV) (hp hp' : List DObj) : DExit → DS → Prop
  | .exit _, _ => False
  | _, s => (retV s res).1 ∧ (retV s res).2 = r ∧ r.inB hp.length = true ∧ hp'.length = hp.length ∧ (∃ t, s.hp = hp' ++ t) ∧ ∀ (i : Nat) (o : DObj), hp'[i]? = some o → hp[i]? = some o ∨ o.cut hp.length = o

section
variable {P : Program} {K F0 : Nat → Prop} {σ0 : Nat → Option Nat} {hp0 : List DObj} {N : Nat} {w0 : World} {C : Orc}

theorem VRep.inB {F : Nat → Prop} {σ : Nat → Option Nat} {hp : List DObj} {w : World} {d : DV} {v : Value} (h : VRep F σ hp w d v) : d.inB hp.length = true := by
  have key : ∀ cs : List DV, (∀ (j : Nat) (d : DV), cs[j]? = some d → d.inB hp.length = true) → DV.inBL hp.length cs = true := by
    intro cs
    induction cs with
    | nil => intro _; rfl
    | cons c r ih => intro h; simp only [DV.inBL, Bool.and_eq_true]; exact ⟨h 0 c rfl, ih fun j d hd => h (j + 1) d (by simpa using hd)⟩
  induction h with
  | undef v => rfl
  | imm h =>
    induction h with
    | clo f cs vs hl vv hv hr ih => exact key _ ih
    | _ => rfl
  | own h L off len v h1 hh ho => simpa [DV.inB] using hh
  | ptr h L i j v h1 hh ho => simpa [DV.inB] using hh
  | agg cs vs hl vv hv hr ih => exact key _ ih
  | tup cs vs hl vv hv hr ih => exact key _ ih
  | clo f cs vs hl vv hv hr ih => exact key _ ih
  | meth f cs vs hl vv hv hr ih => exact key _ ih

end

/-! Two objects: a struct, and what one of its fields has. -/
structure Duo (ρ : Type) where
  o : Nat → ρ → DObj
  c : ρ → DObj

section
variable {ρ α : Type} {T : Duo ρ} {hp t : List DObj} {n m : Nat} {v v' : ρ}
def Duo.is (T : Duo ρ) (hp : List DObj) (n m : Nat) (v : ρ) : Prop := hp[n]? = some (T.o m v) ∧ hp[m]? = some (T.c v) ∧ n ≠ m
def Duo.put (T : Duo ρ) (hp : List DObj) (n m : Nat) (v : ρ) : List DObj := (hp.set m (T.c v)).set n (T.o m v)
structure Duo.ok (T : Duo ρ) : Prop where
  inj1 : ∀ m v m' v', T.o m v = T.o m' v' → m = m'
  inj2 : ∀ m v v', T.o m v = T.o m v' → T.c v = T.c v' → v = v'
  cut1 : ∀ m v k, m < k → (T.o m v).cut k = T.o m v
  cut2 : ∀ v k, (T.c v).cut k = T.c v

end

end Go.Nk
