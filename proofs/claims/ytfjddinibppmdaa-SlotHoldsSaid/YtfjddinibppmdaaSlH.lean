/- What every call makes of a store. -/
import Derived.Test.YtfjddinibppmdaaSlG
set_option linter.all false
set_option maxRecDepth 20000
namespace Go.Proofs.Ytfjddinibppmdaa
open Go.Nk

/-- What holds, what is beside it, and how many were committed. -/
structure As where
  h : Vn
  o : Vn
  c : Int
def Qs.as (q : Qs) : As := ⟨q.he, q.ot, q.c⟩
def loadA (a : As) (x : Img) (l : List Int) : As := if misB x l then ⟨⟨true, x, l⟩, vnZ, a.c⟩ else a
def keepA (a : As) (l : List Int) : As := if a.h.there && misB a.h.x l then ⟨⟨true, a.h.x, l⟩, a.o, a.c⟩ else a
def stageA (a : As) (x : Img) : As := if a.h.there then ⟨a.h, ⟨true, x, []⟩, a.c⟩ else a
def wrOk (a : As) (l : List Int) : Bool := a.o.there && decide ((l.length : Int) ≤ missF a.o)
def writeA (a : As) (l : List Int) : As := if wrOk a l then ⟨a.h, addV a.o l, a.c⟩ else a
def cmOk (a : As) : Bool := a.o.there && missF a.o == 0
def commitA (a : As) : As := if cmOk a then ⟨a.o, a.h, IntKind.i64.wrap (a.c + 1)⟩ else a
def dropA (a : As) : As := ⟨a.h, vnZ, a.c⟩

/-- From a heap to a heap in which the store is another, and the other objects that may change are as they were. -/
structure Stp (hp : List DObj) (n : Nat) (hp' : List DObj) (q' : Qs) : Prop where
  r : Rep hp' n true q'
  k : ∀ i o, i ≠ n → hp[i]? = some o → o.k = .loc → hp'[i]? = some o
theorem one_ne {hp : List DObj} {n i : Nat} {o : DObj} (h : i ≠ n) : (one hp n o)[i]? = hp[i]? := by unfold one; rw [List.getElem?_set_ne (Ne.symm h)]
theorem Stp.same {hp : List DObj} {n : Nat} {q : Qs} (h : Rep hp n true q) : Stp hp n hp q := ⟨h, fun _ _ _ e _ => e⟩
theorem Stp.app {hp : List DObj} {n : Nat} {q : Qs} (h : Rep hp n true q) (t : List DObj) : Stp hp n (hp ++ t) q := ⟨h.app, fun _ _ _ e _ => get_app e⟩
theorem Stp.one {hp t : List DObj} {n : Nat} {q' : Qs} (r : Rep (one (hp ++ t) n (oQ true q')) n true q') : Stp hp n (one (hp ++ t) n (oQ true q')) q' := ⟨r, fun i o hi e _ => by rw [one_ne hi]; exact get_app e⟩

def Sload (n : Nat) (q : Qs) (x : Img) (l : List Int) (hp : List DObj) : List DObj := if misB x l then one (hp ++ jk x l hp.length) n (oQ true (loadQ q x l (hp.length + 1))) else hp ++ jk x l hp.length
def SloadQ (q : Qs) (x : Img) (l : List Int) (L : Nat) : Qs := if misB x l then loadQ q x l (L + 1) else q
theorem jk_get {hp : List DObj} {x : Img} {l : List Int} : (hp ++ jk x l hp.length)[hp.length + 1]? = some (oSt l) := get3b
theorem load_step {hp : List DObj} {n : Nat} {q : Qs} (h : Rep hp n true q) (x : Img) (l : List Int) : Stp hp n (Sload n q x l hp) (SloadQ q x l hp.length) ∧ (SloadQ q x l hp.length).as = loadA q.as x l := by
  have hn := h.lt
  unfold Sload SloadQ loadA
  cases misB x l
  · exact ⟨Stp.app h _, rfl⟩
  simp only [if_true]
  unfold loadQ
  rcases bcases q.b with b | b <;> simp only [b, if_true, if_false, Bool.false_eq_true]
  · exact ⟨Stp.one (Rep.set h.app (kept_new jk_get (by show hp.length + 1 ≠ n; omega)) kept_z (fun _ t => by cases t)), by simp [Qs.as, Qs.he, Qs.ot, b]⟩
  · exact ⟨Stp.one (Rep.set h.app kept_z (kept_new jk_get (by show hp.length + 1 ≠ n; omega)) (fun t => by cases t)), by simp [Qs.as, Qs.he, Qs.ot, b]⟩
def Skeep (n : Nat) (q : Qs) (l : List Int) (hp : List DObj) : List DObj := if q.he.there then (if misB q.he.x l then one (hp ++ jk q.he.x l hp.length) n (oQ true (keepQ q l (hp.length + 1))) else hp ++ jk q.he.x l hp.length) else hp
def Sstage (n : Nat) (q : Qs) (x : Img) (hp : List DObj) : List DObj := if q.he.there then one (hp ++ [oJA x [] (hp.length + 1), oSt []]) n (oQ true (stageQ q x (hp.length + 1))) else hp
def SstageQ (q : Qs) (x : Img) (L : Nat) : Qs := if q.he.there then stageQ q x (L + 1) else q
theorem stage_step {hp : List DObj} {n : Nat} {q : Qs} (h : Rep hp n true q) (x : Img) : Stp hp n (Sstage n q x hp) (SstageQ q x hp.length) ∧ (SstageQ q x hp.length).as = stageA q.as x := by
  have hn := h.lt
  unfold Sstage SstageQ stageA
  show _ ∧ _ = if q.he.there then (⟨q.he, ⟨true, x, []⟩, q.c⟩ : As) else q.as
  cases q.he.there
  · exact ⟨Stp.same h, rfl⟩
  simp only [if_true]
  unfold stageQ
  rcases bcases q.b with b | b <;> simp only [b, if_true, if_false, Bool.false_eq_true]
  · exact ⟨Stp.one (Rep.set h.app h.k0.app (kept_new get2b (by show hp.length + 1 ≠ n; omega)) (fun t _ => by have := h.k0.lt t; show q.h0 ≠ hp.length + 1; omega)), by simp [Qs.as, Qs.he, Qs.ot, b]⟩
  · exact ⟨Stp.one (Rep.set h.app (kept_new get2b (by show hp.length + 1 ≠ n; omega)) h.k1.app (fun _ t => by have := h.k1.lt t; show hp.length + 1 ≠ q.h1; omega)), by simp [Qs.as, Qs.he, Qs.ot, b]⟩
def Swrite (n : Nat) (q : Qs) (l : List Int) (hp : List DObj) : List DObj := if q.ot.there && decide ((l.length : Int) ≤ missF q.ot) then one (hp.set (otH q) (oSt (q.ot.st ++ l))) n (oQ true (writeQ q l)) else hp
def SwriteQ (q : Qs) (l : List Int) : Qs := if wrOk q.as l then writeQ q l else q
theorem write_step {hp : List DObj} {n : Nat} {q : Qs} (h : Rep hp n true q) (l : List Int) : Stp hp n (Swrite n q l hp) (SwriteQ q l) ∧ (SwriteQ q l).as = writeA q.as l := by
  have hn := h.lt
  unfold Swrite SwriteQ writeA
  show Stp hp n (if wrOk q.as l then _ else hp) _ ∧ _
  cases w : wrOk q.as l
  · exact ⟨Stp.same h, rfl⟩
  simp only [if_true]
  have wt : q.ot.there = true := by
    have : (q.ot.there && decide ((l.length : Int) ≤ missF q.ot)) = true := w
    rw [Bool.and_eq_true] at this
    exact this.1
  clear w
  unfold writeQ otH Qs.ot at *
  have keep : ∀ (H : Nat) (v : Vn) (h' : Nat), Kept hp n v h' → (v.there = true → H ≠ h') → ∀ X, Kept (hp.set H X) n v h' := fun H v h' k hne X =>
    ⟨fun e => ⟨by rw [List.getElem?_set_ne (hne e)]; exact (k.1 e).1, (k.1 e).2⟩, k.2⟩
  rcases bcases q.b with b | b <;> simp only [b, if_true, if_false, Bool.false_eq_true] at wt ⊢
  · have hk := h.k1.1 wt
    have hb : Rep (hp.set q.h1 (oSt (q.v1.st ++ l))) n true { q with v1 := addV q.v1 l } → False ∨ True := fun _ => .inr trivial
    have o1 : (hp.set q.h1 (oSt (q.v1.st ++ l)))[n]? = some (oQ true q) := by rw [List.getElem?_set_ne hk.2]; exact h.o
    have g1 : (hp.set q.h1 (oSt (q.v1.st ++ l)))[q.h1]? = some (oSt (q.v1.st ++ l)) := List.getElem?_set_self (h.k1.lt wt)
    have k0' := keep q.h1 q.v0 q.h0 h.k0 (fun e => (h.ne e wt).symm) (oSt (q.v1.st ++ l))
    have k1' : Kept (hp.set q.h1 (oSt (q.v1.st ++ l))) n (addV q.v1 l) q.h1 := ⟨fun _ => ⟨g1, hk.2⟩, fun e => by rw [show (addV q.v1 l).there = q.v1.there from rfl, wt] at e; cases e⟩
    refine ⟨⟨⟨by unfold one; rw [List.getElem?_set_self (by rw [List.length_set]; exact hn)], k0'.set, k1'.set, fun e _ => h.ne e wt⟩, fun i o hi e ek => ?_⟩, by simp [Qs.as, Qs.he, Qs.ot, b]⟩
    rw [one_ne hi, List.getElem?_set_ne (fun c => by subst c; rw [hk.1] at e; injection e with e; subst e; cases ek)]
    exact e
  · have hk := h.k0.1 wt
    have g1 : (hp.set q.h0 (oSt (q.v0.st ++ l)))[q.h0]? = some (oSt (q.v0.st ++ l)) := List.getElem?_set_self (h.k0.lt wt)
    have k1' := keep q.h0 q.v1 q.h1 h.k1 (fun e => h.ne wt e) (oSt (q.v0.st ++ l))
    have k0' : Kept (hp.set q.h0 (oSt (q.v0.st ++ l))) n (addV q.v0 l) q.h0 := ⟨fun _ => ⟨g1, hk.2⟩, fun e => by rw [show (addV q.v0 l).there = q.v0.there from rfl, wt] at e; cases e⟩
    refine ⟨⟨⟨by unfold one; rw [List.getElem?_set_self (by rw [List.length_set]; exact hn)], k0'.set, k1'.set, fun _ e => h.ne wt e⟩, fun i o hi e ek => ?_⟩, by simp [Qs.as, Qs.he, Qs.ot, b]⟩
    rw [one_ne hi, List.getElem?_set_ne (fun c => by subst c; rw [hk.1] at e; injection e with e; subst e; cases ek)]
    exact e
def Scommit (n : Nat) (q : Qs) (hp : List DObj) : List DObj := if q.ot.there && missF q.ot == 0 then one hp n (oQ true (cmtQ q)) else hp
def ScommitQ (q : Qs) : Qs := if cmOk q.as then cmtQ q else q
theorem Stp.one0 {hp : List DObj} {n : Nat} {q' : Qs} (r : Rep (Nk.one hp n (oQ true q')) n true q') : Stp hp n (Nk.one hp n (oQ true q')) q' := ⟨r, fun i o hi e _ => by rw [one_ne hi]; exact e⟩
theorem commit_step {hp : List DObj} {n : Nat} {q : Qs} (h : Rep hp n true q) : Stp hp n (Scommit n q hp) (ScommitQ q) ∧ (ScommitQ q).as = commitA q.as := by
  unfold Scommit ScommitQ commitA
  show Stp hp n (if cmOk q.as then _ else hp) _ ∧ _
  cases w : cmOk q.as
  · exact ⟨Stp.same h, rfl⟩
  simp only [if_true]
  refine ⟨Stp.one0 (Rep.set h h.k0 h.k1 h.ne), ?_⟩
  rcases bcases q.b with b | b <;> simp [Qs.as, Qs.he, Qs.ot, b, cmtQ, incQ, flipQ]
def Sdrop (n : Nat) (q : Qs) (hp : List DObj) : List DObj := one hp n (oQ true (dropQ q))
theorem drop_step {hp : List DObj} {n : Nat} {q : Qs} (h : Rep hp n true q) : Stp hp n (Sdrop n q hp) (dropQ q) ∧ (dropQ q).as = dropA q.as := by
  unfold Sdrop dropA dropQ
  rcases bcases q.b with b | b <;> simp only [b, if_true, if_false, Bool.false_eq_true]
  · exact ⟨Stp.one0 (Rep.set h h.k0 kept_z (fun _ t => by cases t)), by simp [Qs.as, Qs.he, Qs.ot, b]⟩
  · exact ⟨Stp.one0 (Rep.set h kept_z h.k1 (fun t => by cases t)), by simp [Qs.as, Qs.he, Qs.ot, b]⟩
end Go.Proofs.Ytfjddinibppmdaa
