/- Sums of bytes by a shift register: plain laws. -/
import Derived.Test.YtfaailjhioobhaaGreatFns
set_option linter.all false
set_option maxRecDepth 20000
namespace Go.Proofs.YtfaailjhioobhaaGreat
namespace Crc0

def T (n : BitVec 32) : BitVec 32 := (n >>> 1) ^^^ (if n.getLsbD 0 then 0xedb88320#32 else 0#32)
def it : Nat → BitVec 32 → BitVec 32
  | 0, n => n
  | k + 1, n => it k (T n)
def reg (r : BitVec 32) (b : List UInt8) : BitVec 32 := b.foldl (fun r c => it 8 (r ^^^ BitVec.ofNat 32 c.toNat)) r
def bits (r : BitVec 32) (s : List Bool) : BitVec 32 := s.foldl (fun r x => T (r ^^^ if x then 1#32 else 0#32)) r

theorem T_xor (a b : BitVec 32) : T (a ^^^ b) = T a ^^^ T b := by
  unfold T
  rw [BitVec.ushiftRight_xor_distrib, BitVec.getLsbD_xor]
  have hc : ∀ x y : BitVec 32, x ^^^ (y ^^^ x) = y := fun x y => by rw [BitVec.xor_comm y x, ← BitVec.xor_assoc, BitVec.xor_self, BitVec.zero_xor]
  generalize 0xedb88320#32 = p
  cases a.getLsbD 0 <;> cases b.getLsbD 0 <;> simp only [Bool.xor_false, Bool.xor_true, Bool.not_false, Bool.not_true, Bool.false_eq_true, if_false, if_true, BitVec.xor_zero]
  · rw [BitVec.xor_assoc]
  · rw [BitVec.xor_assoc, BitVec.xor_assoc, BitVec.xor_comm (b >>> 1) p]
  · rw [BitVec.xor_assoc (a >>> 1) p, hc p (b >>> 1) |> fun h => (by rw [h] : p ^^^ (b >>> 1 ^^^ p) = b >>> 1)]
theorem T_zero : T 0#32 = 0#32 := by decide
theorem it_xor (k : Nat) (a b : BitVec 32) : it k (a ^^^ b) = it k a ^^^ it k b := by
  induction k generalizing a b with
  | zero => rfl
  | succ k ih => simp only [it, T_xor, ih]
theorem it_zero (k : Nat) : it k 0#32 = 0#32 := by
  induction k with
  | zero => rfl
  | succ k ih => simp only [it, T_zero, ih]
theorem it_add (a b : Nat) (n : BitVec 32) : it (a + b) n = it b (it a n) := by
  induction a generalizing n with
  | zero => simp [it]
  | succ a ih => rw [Nat.succ_add]; simp only [it, ih]
/-- Nothing is lost. -/
theorem T_inj0 (x : BitVec 32) (h : T x = 0#32) : x = 0#32 := by
  have h31 : (T x).getLsbD 31 = false := by rw [h]; simp
  have h0 : x.getLsbD 0 = false := by
    unfold T at h31
    rw [BitVec.getLsbD_xor, BitVec.getLsbD_ushiftRight] at h31
    cases hx : x.getLsbD 0 with
    | false => rfl
    | true =>
      rw [hx] at h31
      simp [BitVec.getLsbD_of_ge] at h31
  apply BitVec.eq_of_getLsbD_eq
  intro i hi
  have hk : ∀ j, (T x).getLsbD j = false := fun j => by rw [h]; simp
  unfold T at hk
  rw [h0] at hk
  simp only [Bool.false_eq_true, if_false, BitVec.xor_zero, BitVec.getLsbD_ushiftRight] at hk
  rcases Nat.eq_zero_or_pos i with rfl | hp
  · simpa using h0
  · have := hk (i - 1)
    rw [show 1 + (i - 1) = i by omega] at this
    simpa using this
theorem it_inj0 (k : Nat) (x : BitVec 32) (h : it k x = 0#32) : x = 0#32 := by
  induction k generalizing x with
  | zero => exact h
  | succ k ih => exact T_inj0 x (ih _ h)
/-- The lowest bit, as a word. -/
def lo (x : Bool) : BitVec 32 := if x then 1#32 else 0#32
theorem T_split (w : BitVec 32) : T w = (w >>> 1) ^^^ T (lo (w.getLsbD 0)) := by
  conv => lhs; unfold T
  cases w.getLsbD 0
  · rw [show T (lo false) = 0#32 by decide]; simp
  · rw [show T (lo true) = 0xedb88320#32 by decide]; simp
theorem bits_cons (r : BitVec 32) (x : Bool) (s : List Bool) : bits r (x :: s) = bits (T (r ^^^ lo x)) s := rfl
theorem bits_append (r : BitVec 32) (s t : List Bool) : bits r (s ++ t) = bits (bits r s) t := by simp [bits]
/-- The first k bits of a number. -/
def low (k w : Nat) : List Bool := (List.range k).map fun i => w.testBit i
theorem low_succ (k w : Nat) : low (k + 1) w = w.testBit 0 :: low k (w / 2) := by
  unfold low
  rw [List.range_succ_eq_map, List.map_cons, List.map_map]
  congr 1
  apply List.map_congr_left
  intro i _
  simp [Nat.testBit_succ]
theorem bits_low (k w : Nat) (r : BitVec 32) (hk : k ≤ 32) (hw : w < 2 ^ k) : bits r (low k w) = it k (r ^^^ BitVec.ofNat 32 w) := by
  induction k generalizing r w with
  | zero =>
    have : w = 0 := by simpa using hw
    subst this
    simp [low, bits, it]
  | succ k ih =>
    rw [low_succ, bits_cons, ih _ _ (by omega) (by rw [Nat.pow_succ] at hw; omega)]
    simp only [it]
    congr 1
    rw [T_xor, T_xor, T_split (BitVec.ofNat 32 w), BitVec.xor_assoc]
    congr 1
    rw [BitVec.xor_comm]
    have h32 : w < 2 ^ 32 := Nat.lt_of_lt_of_le hw (Nat.pow_le_pow_right (by omega) hk)
    congr 1
    · apply BitVec.eq_of_toNat_eq
      simp only [BitVec.toNat_ushiftRight, BitVec.toNat_ofNat]
      rw [Nat.mod_eq_of_lt h32, Nat.mod_eq_of_lt (by omega), Nat.shiftRight_eq_div_pow]
    · congr 2
      rw [BitVec.getLsbD_ofNat]; simp
/-- All bits of bytes, the lowest one of each first. -/
def all (b : List UInt8) : List Bool := b.flatMap fun c => low 8 c.toNat
theorem reg_bits (b : List UInt8) (r : BitVec 32) : reg r b = bits r (all b) := by
  induction b generalizing r with
  | nil => rfl
  | cons c b ih =>
    show reg (it 8 (r ^^^ BitVec.ofNat 32 c.toNat)) b = _
    rw [ih]
    simp only [all, List.flatMap_cons]
    rw [bits_append, bits_low 8 _ _ (by omega) (by exact c.toNat_lt)]
theorem bits_xor (s t : List Bool) (h : s.length = t.length) (r q : BitVec 32) : bits (r ^^^ q) (List.zipWith xor s t) = bits r s ^^^ bits q t := by
  induction s generalizing t r q with
  | nil =>
    have : t = [] := List.length_eq_zero_iff.1 h.symm
    subst this; rfl
  | cons x s ih =>
    obtain ⟨y, t, rfl⟩ : ∃ y t', t = y :: t' := List.exists_cons_of_length_eq_add_one h.symm
    simp only [List.zipWith_cons_cons, bits_cons]
    rw [← ih t (by simpa using h), ← T_xor]
    congr 2
    have : lo (x ^^ y) = lo x ^^^ lo y := by cases x <;> cases y <;> decide
    rw [this]
    ac_rfl
theorem bits_zeros (m : Nat) (r : BitVec 32) : bits r (List.replicate m false) = it m r := by
  induction m generalizing r with
  | zero => rfl
  | succ m ih => rw [List.replicate_succ, bits_cons, ih]; simp [lo, it]
/-- A burst is told. -/
theorem burst (s e : List Bool) (a m w : Nat) (r : BitVec 32) (he : e = List.replicate a false ++ (low 32 w ++ List.replicate m false)) (hl : s.length = e.length) (hw : w < 2 ^ 32) (h0 : w ≠ 0) :
    bits r (List.zipWith xor s e) ≠ bits r s := by
  intro h
  have h1 := bits_xor s e hl r 0#32
  rw [BitVec.xor_zero, h] at h1
  have h2 : bits 0#32 e = 0#32 := by
    have h3 : bits r s ^^^ bits r s = bits r s ^^^ (bits r s ^^^ bits 0#32 e) := by rw [← h1]
    rw [← BitVec.xor_assoc, BitVec.xor_self, BitVec.zero_xor] at h3
    exact h3.symm
  rw [he, bits_append, bits_append, bits_zeros, bits_zeros, it_zero, bits_low 32 w _ (by omega) hw, BitVec.zero_xor] at h2
  have h4 := it_inj0 _ _ (it_inj0 _ _ h2)
  have := congrArg BitVec.toNat h4
  simp only [BitVec.toNat_ofNat] at this
  omega
/-- A table of 256 words does. -/
theorem it_low0 (k : Nat) (w : BitVec 32) (h : ∀ i, i < k → w.getLsbD i = false) : it k w = w >>> k := by
  induction k generalizing w with
  | zero => simp [it]
  | succ k ih =>
    simp only [it]
    have h0 := h 0 (by omega)
    have hT : T w = w >>> 1 := by unfold T; rw [h0]; simp
    rw [hT, ih _ fun i hi => by rw [BitVec.getLsbD_ushiftRight]; exact h _ (by omega)]
    rw [← BitVec.shiftRight_add, Nat.add_comm]
end Crc0
end Go.Proofs.YtfaailjhioobhaaGreat
