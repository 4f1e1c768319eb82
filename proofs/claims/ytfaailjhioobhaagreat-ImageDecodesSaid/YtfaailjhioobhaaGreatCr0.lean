/- Sums of bytes by a shift register: plain laws. -/
import Derived.Test.YtfaailjhioobhaaGreatFns
set_option linter.all false
set_option maxRecDepth 20000
namespace Go.Proofs.YtfaailjhioobhaaGreat
namespace Crc0
def T (n : BitVec 32) : BitVec 32 := (n >>> 1) ^^^ (if n.getLsbD 0 then 0xedb88320#32 else 0#32)
def it : Nat → BitVec 32 → BitVec 32
 | 0,n => n
 | k + 1,n => it k (T n)
def reg (r : BitVec 32) (b : List UInt8) : BitVec 32 := b.foldl (fun r c => it 8 (r ^^^ BitVec.ofNat 32 c.toNat)) r
def bits (r : BitVec 32) (s : List Bool) : BitVec 32 := s.foldl (fun r x => T (r ^^^ if x then 1#32 else 0#32)) r
theorem T_xor (a b : BitVec 32) : T (a ^^^ b) = T a ^^^ T b := by
 unfold T
 rw [BitVec.ushiftRight_xor_distrib,BitVec.getLsbD_xor]
 have hc : ∀ x y : BitVec 32,x ^^^ (y ^^^ x) = y := fun x y => by rw [BitVec.xor_comm y x,← BitVec.xor_assoc,BitVec.xor_self,BitVec.zero_xor]
 generalize 0xedb88320#32 = p
 cases a.getLsbD 0 <;> cases b.getLsbD 0 <;> simp only [Bool.xor_false,Bool.xor_true,Bool.not_false,Bool.not_true,Bool.false_eq_true,if_false,if_true,BitVec.xor_zero]
 · rw [BitVec.xor_assoc]
 · rw [BitVec.xor_assoc,BitVec.xor_assoc,BitVec.xor_comm (b >>> 1) p]
 · rw [BitVec.xor_assoc (a >>> 1) p,hc p (b >>> 1) |> fun h => (by rw [h] : p ^^^ (b >>> 1 ^^^ p) = b >>> 1)]
theorem it_xor (k : Nat) (a b : BitVec 32) : it k (a ^^^ b) = it k a ^^^ it k b := by
 induction k generalizing a b with
 | zero => rfl
 | succ k ih => simp only [it,T_xor,ih]
theorem it_add (a b : Nat) (n : BitVec 32) : it (a + b) n = it b (it a n) := by
 induction a generalizing n with
 | zero => simp [it]
 | succ a ih => rw [Nat.succ_add]; simp only [it,ih]
def lo (x : Bool) : BitVec 32 := if x then 1#32 else 0#32
def low (k w : Nat) : List Bool := (List.range k).map fun i => w.testBit i
def all (b : List UInt8) : List Bool := b.flatMap fun c => low 8 c.toNat
theorem it_low0 (k : Nat) (w : BitVec 32) (h : ∀ i,i < k → w.getLsbD i = false) : it k w = w >>> k := by
 induction k generalizing w with
 | zero => simp [it]
 | succ k ih =>
   simp only [it]
   have h0 := h 0 (by omega)
   have hT : T w = w >>> 1 := by unfold T; rw [h0]; simp
   rw [hT,ih _ fun i hi => by rw [BitVec.getLsbD_ushiftRight]; exact h _ (by omega)]
   rw [← BitVec.shiftRight_add,Nat.add_comm]
end Crc0
end Go.Proofs.YtfaailjhioobhaaGreat
