/- What is sealed is opened; a burst is told. -/
import Derived.Test.YtmdgjgnmbdmdgaaCrF
set_option linter.all false
set_option maxRecDepth 20000
namespace Go.Proofs.Ytmdgjgnmbdmdgaa
open Go.Nk Crc0

theorem low_add (a b w : Nat) : low (a + b) w = low a w ++ low b (w / 2 ^ a) := by
  unfold low
  rw [List.range_add, List.map_append, List.map_map]
  congr 1
  apply List.map_congr_left
  intro i _
  simp only [Function.comp_apply]
  rw [Nat.add_comm, Nat.testBit_div_two_pow]
theorem low_mod (w : Nat) : low 8 (w % 256) = low 8 w := by
  unfold low
  apply List.map_congr_left
  intro i hi
  have : i < 8 := List.mem_range.1 hi
  rw [show (256 : Nat) = 2 ^ 8 from rfl, Nat.testBit_mod_two_pow]
  simp [this]
theorem all_tl (n : BitVec 32) : all (tl n) = low 32 n.toNat := by
  have e : ∀ k, low 8 (UInt8.ofNat (n >>> (8 * k)).toNat).toNat = low 8 (n.toNat / 2 ^ (8 * k)) := by
    intro k
    rw [UInt8.toNat_ofNat', low_mod, BitVec.toNat_ushiftRight, Nat.shiftRight_eq_div_pow]
  have h : all (tl n) = low 8 (n.toNat / 2 ^ (8 * 0)) ++ (low 8 (n.toNat / 2 ^ (8 * 1)) ++ (low 8 (n.toNat / 2 ^ (8 * 2)) ++ low 8 (n.toNat / 2 ^ (8 * 3)))) := by
    rw [← e 0, ← e 1, ← e 2, ← e 3]
    simp [all, tl, tlk, List.range_succ]
  rw [h]
  generalize n.toNat = w
  rw [show (32 : Nat) = 8 + (8 + (8 + 8)) from rfl, low_add, low_add, low_add]
  simp only [Nat.div_div_eq_div_mul, Nat.mul_zero, Nat.pow_zero, Nat.div_one]
theorem reg_tl (r n : BitVec 32) : reg r (tl n) = it 32 (r ^^^ n) := by
  rw [reg_bits, all_tl, bits_low 32 _ _ (by omega) n.isLt, BitVec.ofNat_toNat, BitVec.setWidth_eq]
theorem reg_app (r : BitVec 32) (a b : List UInt8) : reg r (a ++ b) = reg (reg r a) b := by simp [reg]
/-- The residue. -/
theorem open_res {d x : List UInt8} (h : openF d = some x) : reg 0xffffffff#32 d = it 32 0xffffffff#32 := by
  unfold openF at h
  split at h
  · rename_i hc
    have e : d = d.take (d.length - 4) ++ tl (crcF (d.take (d.length - 4))) := by rw [hc.2, List.take_append_drop]
    rw [e, reg_app, reg_tl]
    generalize d.take (d.length - 4) = y
    unfold crcF
    congr 1
    generalize reg 0xffffffff#32 y = r
    rw [show 0xffffffff#32 = BitVec.allOnes 32 by decide]
    apply BitVec.eq_of_getLsbD_eq
    intro i hi
    rw [BitVec.getLsbD_xor, BitVec.getLsbD_not, BitVec.getLsbD_allOnes]
    simp [hi]
  · cases h
theorem open_seal (b : List UInt8) : openF (sealF b) = some b := by
  have l := sealF_len b
  have e1 : (sealF b).take ((sealF b).length - 4) = b := by rw [l]; simp [sealF]
  have e2 : (sealF b).drop ((sealF b).length - 4) = tl (crcF b) := by rw [l]; simp [sealF]
  unfold openF
  rw [e1, e2, if_pos ⟨by omega, rfl⟩]

/-! bits of bytes -/
def bitD (d : List UInt8) (j : Nat) : Bool := (d.getD (j / 8) 0).toNat.testBit (j % 8)
theorem all_len (d : List UInt8) : (all d).length = 8 * d.length := by
  induction d with
  | nil => rfl
  | cons c d ih => simp only [all, List.flatMap_cons, List.length_append, List.length_cons] at ih ⊢; rw [ih]; simp [low]; omega
theorem all_get (d : List UInt8) (j : Nat) (h : j < 8 * d.length) : (all d)[j]? = some (bitD d j) := by
  induction d generalizing j with
  | nil => simp at h
  | cons c d ih =>
    simp only [all, List.flatMap_cons]
    by_cases h8 : j < 8
    · rw [List.getElem?_append_left (by simp [low]; exact h8)]
      have e1 : j / 8 = 0 := by omega
      have e2 : j % 8 = j := by omega
      simp [low, bitD, e1, e2, h8]
    · rw [List.getElem?_append_right (by simp [low]; omega)]
      have hl : (low 8 c.toNat).length = 8 := by simp [low]
      rw [hl]
      have := ih (j - 8) (by simp only [List.length_cons] at h; omega)
      simp only [all] at this
      rw [this]
      have e1 : j / 8 = (j - 8) / 8 + 1 := by omega
      have e2 : j % 8 = (j - 8) % 8 := by omega
      simp [bitD, e1, e2]
def flipB (c : UInt8) (q : Nat) : UInt8 := UInt8.ofNat (c.toNat ^^^ 2 ^ q)
theorem flipB_nat (c : UInt8) (q : Nat) (h : q < 8) : (flipB c q).toNat = c.toNat ^^^ 2 ^ q := by
  unfold flipB
  rw [UInt8.toNat_ofNat']
  exact Nat.mod_eq_of_lt (Nat.xor_lt_two_pow (n := 8) c.toNat_lt (Nat.pow_lt_pow_right (by omega) h))
def flipAt (d : List UInt8) (m : Nat) : List UInt8 := d.set (m / 8) (flipB (d.getD (m / 8) 0) (m % 8))
theorem flipAt_len (d : List UInt8) (m : Nat) : (flipAt d m).length = d.length := by simp [flipAt]
theorem flip_bit (d : List UInt8) (m : Nat) (h : m < 8 * d.length) (j : Nat) : bitD (flipAt d m) j = (bitD d j ^^ decide (j = m)) := by
  unfold bitD flipAt
  rw [List.getD_eq_getElem?_getD, List.getElem?_set]
  by_cases e : m / 8 = j / 8
  · rw [if_pos e, if_pos (by omega), Option.getD_some, flipB_nat _ _ (by omega), Nat.testBit_xor, Nat.testBit_two_pow, ← e]
    congr 1
    apply Bool.eq_iff_iff.2
    simp only [decide_eq_true_eq]
    omega
  · rw [if_neg e, ← List.getD_eq_getElem?_getD]
    have : j ≠ m := fun h => e (by rw [h])
    simp [this]
def flips (d : List UInt8) (at_ : Nat) (turn : BitVec 32) : Nat → List UInt8
  | 0 => d
  | i + 1 => if turn.getLsbD i then flipAt (flips d at_ turn i) (at_ + i) else flips d at_ turn i
theorem flips_len (d : List UInt8) (at_ : Nat) (turn : BitVec 32) (i : Nat) : (flips d at_ turn i).length = d.length := by
  induction i with
  | zero => rfl
  | succ i ih => simp only [flips]; split <;> simp [flipAt_len, ih]
theorem flips_bit (d : List UInt8) (at_ : Nat) (turn : BitVec 32) (h : at_ + 32 ≤ 8 * d.length) (i : Nat) (hi : i ≤ 32) (j : Nat) :
    bitD (flips d at_ turn i) j = (bitD d j ^^ (decide (at_ ≤ j ∧ j < at_ + i) && turn.getLsbD (j - at_))) := by
  induction i with
  | zero =>
    have : ¬ (at_ ≤ j ∧ j < at_ + 0) := by omega
    rw [decide_eq_false this]
    simp [flips]
  | succ i ih =>
    have ih := ih (by omega)
    simp only [flips]
    by_cases hj : j = at_ + i
    · have e1 : ¬ (at_ ≤ j ∧ j < at_ + i) := by omega
      have e2 : at_ ≤ j ∧ j < at_ + (i + 1) := by omega
      have e3 : j - at_ = i := by omega
      rw [decide_eq_false e1, Bool.false_and, Bool.xor_false] at ih
      rw [decide_eq_true e2, e3, Bool.true_and]
      split
      · rename_i ht
        rw [flip_bit _ _ (by rw [flips_len]; omega), ih, ht, decide_eq_true hj]
      · rename_i ht
        rw [ih]; simp at ht; simp [ht]
    · have e1 : decide (at_ ≤ j ∧ j < at_ + (i + 1)) = decide (at_ ≤ j ∧ j < at_ + i) := by
        apply Bool.eq_iff_iff.2; simp only [decide_eq_true_eq]; omega
      rw [e1]
      split
      · rw [flip_bit _ _ (by rw [flips_len]; omega), ih, decide_eq_false hj, Bool.xor_false]
      · exact ih
/-- Where bits are turned. -/
def errs (at_ n : Nat) (turn : BitVec 32) : List Bool := List.replicate at_ false ++ (low 32 turn.toNat ++ List.replicate (n - at_ - 32) false)
theorem errs_len (at_ n : Nat) (turn : BitVec 32) (h : at_ + 32 ≤ n) : (errs at_ n turn).length = n := by simp [errs, low]; omega
theorem errs_get (at_ n : Nat) (turn : BitVec 32) (h : at_ + 32 ≤ n) (j : Nat) (hj : j < n) : (errs at_ n turn)[j]? = some (decide (at_ ≤ j ∧ j < at_ + 32) && turn.getLsbD (j - at_)) := by
  unfold errs
  by_cases h1 : j < at_
  · rw [List.getElem?_append_left (by simpa using h1), List.getElem?_replicate, if_pos h1]
    have : ¬ (at_ ≤ j ∧ j < at_ + 32) := by omega
    simp [this]
  rw [List.getElem?_append_right (by simpa using by omega), List.length_replicate]
  by_cases h2 : j < at_ + 32
  · rw [List.getElem?_append_left (by simp [low]; omega)]
    have e : at_ ≤ j ∧ j < at_ + 32 := by omega
    have e2 : j - at_ < 32 := by omega
    simp [low, e, e2, BitVec.testBit_toNat]
  · rw [List.getElem?_append_right (by simp [low]; omega), List.getElem?_replicate]
    have : ¬ (at_ ≤ j ∧ j < at_ + 32) := by omega
    rw [if_pos (by simp [low]; omega)]
    simp [this]
theorem all_flips (d : List UInt8) (at_ : Nat) (turn : BitVec 32) (h : at_ + 32 ≤ 8 * d.length) : all (flips d at_ turn 32) = List.zipWith xor (all d) (errs at_ (8 * d.length) turn) := by
  apply List.ext_getElem?
  intro j
  by_cases hj : j < 8 * d.length
  · rw [all_get _ _ (by rw [flips_len]; exact hj), flips_bit d at_ turn h 32 (Nat.le_refl _), List.getElem?_zipWith, all_get _ _ hj, errs_get _ _ _ h _ hj]
  · rw [List.getElem?_eq_none (by rw [all_len, flips_len]; omega), List.getElem?_eq_none (by rw [List.length_zipWith, all_len]; omega)]
/-- A burst is told. -/
theorem burst_told {c x : List UInt8} (h : openF c = some x) (at_ : Nat) (turn : BitVec 32) (hat : at_ + 32 ≤ 8 * c.length) (ht : turn ≠ 0#32) : openF (flips c at_ turn 32) = none := by
  cases ho : openF (flips c at_ turn 32) with
  | none => rfl
  | some y =>
    exfalso
    have e1 := open_res h
    have e2 := open_res ho
    rw [reg_bits] at e1 e2
    rw [all_flips c at_ turn hat] at e2
    refine burst (all c) _ at_ (8 * c.length - at_ - 32) turn.toNat 0xffffffff#32 rfl ?_ turn.isLt (fun h0 => ht (BitVec.eq_of_toNat_eq h0)) (e2.trans e1.symm)
    rw [all_len]; exact (errs_len _ _ _ hat).symm
end Go.Proofs.Ytmdgjgnmbdmdgaa
