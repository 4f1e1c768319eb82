/- Steps at a branch: what is settled goes on; what is not stops there. -/
import Derived.Test.YtjgefhgkinocmaaGreatNkZ
set_option linter.all false
namespace Go.Nk
section
variable {C : Orc} {h0 : Nat} {Q : DExit → DS → Prop} {s : DS}
theorem dwp_condT {c : DA} {a b : DCode} (h : c.ev s.fr = .bool true) : dwp C h0 (.cond c a b) Q s = dwp C h0 a Q s := by
  rw [dwp_cond, h]
  simp
theorem dwp_condF {c : DA} {a b : DCode} (h : c.ev s.fr = .bool false) : dwp C h0 (.cond c a b) Q s = dwp C h0 b Q s := by
  rw [dwp_cond, h]
  simp
theorem dops_someT {C : Orc} {dst : Option Nat} {op : DOp} {g : Nat} {b : Bool} {r : List DOper} {K : DS → Prop} (h : get g s.fr = .bool b) :
    dops C (⟨dst, op, some (g, b)⟩ :: r) s K = ((dvalX C op s).pre ∧ dops C r (s.put dst (dvalX C op s)) K) := by
  rw [dops_some, h]
  simp
theorem dops_someF {C : Orc} {dst : Option Nat} {op : DOp} {g : Nat} {b : Bool} {r : List DOper} {K : DS → Prop} (h : get g s.fr = .bool (!b)) :
    dops C (⟨dst, op, some (g, b)⟩ :: r) s K = dops C r (s.put dst ⟨True, .tup [], s.hp⟩) K := by
  rw [dops_some, h]
  cases b <;> simp
theorem dops_someN {C : Orc} {dst : Option Nat} {op : DOp} {g : Nat} {b : Bool} {r : List DOper} {K : DS → Prop} (h : get g s.fr = .tup []) :
    dops C (⟨dst, op, some (g, b)⟩ :: r) s K = dops C r (s.put dst ⟨True, .tup [], s.hp⟩) K := by
  rw [dops_some, h]
theorem dops_guardI {C : Orc} {dst : Option Nat} {op : DOp} {g : Nat} {b : Bool} {r : List DOper} {K : DS → Prop} {t : Bool} (_ : get g s.fr = .bool t)
    (ht : t = true → dops C (⟨dst, op, some (g, b)⟩ :: r) s K) (hf : t = false → dops C (⟨dst, op, some (g, b)⟩ :: r) s K) : dops C (⟨dst, op, some (g, b)⟩ :: r) s K := by
  cases t
  · exact hf rfl
  · exact ht rfl
theorem dwp_condI {c : DA} {a b : DCode} {t : Bool} (h : c.ev s.fr = .bool t) (ht : t = true → dwp C h0 a Q s) (hf : t = false → dwp C h0 b Q s) : dwp C h0 (.cond c a b) Q s := by
  rw [dwp_cond, h]
  cases t
  · simpa using hf rfl
  · simpa using ht rfl
theorem dwp_condA {c : DA} {a b : DCode} (h : c.ev s.fr = .anyb) (ht : dwp C h0 a Q s) (hf : dwp C h0 b Q s) : dwp C h0 (.cond c a b) Q s := by
  rw [dwp_cond, h]
  exact ⟨ht, hf⟩
end
def b2f : List DV → UInt8 := fun e => match e with | [.int _ n] => UInt8.ofNat n.toNat | _ => 0
theorem dval_b2s {C : Orc} {x : DA} {s : DS} : dval C (.b2s x) s = ⟨(elemsOf s.hp (x.ev s.fr)).pre ∧ (match x.ev s.fr with | .str _ => False | _ => True) ∧ (∀ e ∈ (elemsOf s.hp (x.ev s.fr)).es, ∃ n, e = [.int .u8 n]), .str ((elemsOf s.hp (x.ev s.fr)).es.map b2f), s.hp⟩ := rfl
theorem getD_map {α : Type} [Inhabited α] (f : α → List DV) (l : List α) (k : Nat) (h : k < l.length) : (l.map f).getD k [] = f (l.getD k default) := by
  simp [List.getD, h]
/-- A goal that is to be run first. -/
def Todo (p : Prop) : Prop := p
theorem Todo.to {p : Prop} (h : p) : Todo p := h
theorem Todo.of {p : Prop} (h : Todo p) : p := h
end Go.Nk
