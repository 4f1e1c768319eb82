/- Steps at a branch: what is settled goes on; what is not stops there. -/
import Derived.Test.YtfaailjhioobhaaGreatNkZ
set_option linter.all false
namespace Go.Nk
section
variable {C : Orc} {h0 : Nat} {Q : DExit → DS → Prop} {s : DS}
theorem yb3 {c : DA} {a b : DCode} (h : c.ev s.fr = .bool true) : dwp C h0 (.cond c a b) Q s = dwp C h0 a Q s := by
 rw [zh,h]
 simp
theorem z9m {c : DA} {a b : DCode} (h : c.ev s.fr = .bool false) : dwp C h0 (.cond c a b) Q s = dwp C h0 b Q s := by
 rw [zh,h]
 simp
theorem z56 {C : Orc} {dst : Option Nat} {op : DOp} {g : Nat} {b : Bool} {r : List DOper} {K : DS → Prop} (h : get g s.fr = .bool b) :
   dops C (⟨dst,op,some (g,b)⟩ :: r) s K = ((zc C op s).pre ∧ dops C r (s.put dst (zc C op s)) K) := by
 rw [zm,h]
 simp
theorem z58 {C : Orc} {dst : Option Nat} {op : DOp} {g : Nat} {b : Bool} {r : List DOper} {K : DS → Prop} (h : get g s.fr = .bool (!b)) :
   dops C (⟨dst,op,some (g,b)⟩ :: r) s K = dops C r (s.put dst ⟨True,.tup [],s.hp⟩) K := by
 rw [zm,h]
 cases b <;> simp
theorem z53 {C : Orc} {dst : Option Nat} {op : DOp} {g : Nat} {b : Bool} {r : List DOper} {K : DS → Prop} (h : get g s.fr = .tup []) :
   dops C (⟨dst,op,some (g,b)⟩ :: r) s K = dops C r (s.put dst ⟨True,.tup [],s.hp⟩) K := by
 rw [zm,h]
theorem z7 {C : Orc} {dst : Option Nat} {op : DOp} {g : Nat} {b : Bool} {r : List DOper} {K : DS → Prop} {t : Bool} (_ : get g s.fr = .bool t)
   (ht : t = true → dops C (⟨dst,op,some (g,b)⟩ :: r) s K) (hf : t = false → dops C (⟨dst,op,some (g,b)⟩ :: r) s K) : dops C (⟨dst,op,some (g,b)⟩ :: r) s K := by
 cases t
 · exact hf rfl
 · exact ht rfl
theorem zw {c : DA} {a b : DCode} {t : Bool} (h : c.ev s.fr = .bool t) (ht : t = true → dwp C h0 a Q s) (hf : t = false → dwp C h0 b Q s) : dwp C h0 (.cond c a b) Q s := by
 rw [zh,h]
 cases t
 · simpa using hf rfl
 · simpa using ht rfl
theorem zdh {c : DA} {a b : DCode} (h : c.ev s.fr = .anyb) (ht : dwp C h0 a Q s) (hf : dwp C h0 b Q s) : dwp C h0 (.cond c a b) Q s := by
 rw [zh,h]
 exact ⟨ht,hf⟩
end
def b2f : List DV → UInt8 := fun e => match e with | [.int _ n] => UInt8.ofNat n.toNat | _ => 0
theorem dval_b2s {C : Orc} {x : DA} {s : DS} : dval C (.b2s x) s = ⟨(zi s.hp (x.ev s.fr)).pre ∧ (match x.ev s.fr with | .str _ => False | _ => True) ∧ (∀ e ∈ (zi s.hp (x.ev s.fr)).es,∃ n,e = [.int .u8 n]),.str ((zi s.hp (x.ev s.fr)).es.map b2f),s.hp⟩ := rfl
def Todo (p : Prop) : Prop := p
theorem Todo.to {p : Prop} (h : p) : Todo p := h
theorem Todo.of {p : Prop} (h : Todo p) : p := h
end Go.Nk
