/- What is written is read: plain laws. -/
import Derived.Test.YtfaailjhioobhaaGreatWr4
import Derived.Test.YtfaailjhioobhaaGreatOctBack2
set_option linter.all false
set_option maxRecDepth 20000
namespace Go.Proofs.YtfaailjhioobhaaGreat
open Go.Nk

def val : List UInt8 → Nat
  | [] => 0
  | b :: r => b.toNat * 256 ^ r.length + val r

/-! Readers over what was written. -/
end Go.Proofs.YtfaailjhioobhaaGreat

/- Octets and numbers, there and back. -/
set_option linter.all false
set_option maxRecDepth 20000
namespace Go.Proofs.YtfaailjhioobhaaGreat
open Go.Nk

theorem putL_add (c v n : Nat) : ∀ k, k ≤ n → putL (c * 256 ^ n + v) k = putL v k
  | 0, _ => rfl
  | k + 1, h => by
    unfold putL
    rw [putL_add c v n k (by omega)]
    congr 1
    apply UInt8.toNat_inj.1
    rw [UInt8.toNat_ofNat', UInt8.toNat_ofNat']
    obtain ⟨m, rfl⟩ : ∃ m, n = k + 1 + m := ⟨n - (k + 1), by omega⟩
    have e : c * 256 ^ (k + 1 + m) + v = 256 ^ k * (c * 256 ^ m * 256) + v := by
      rw [Nat.pow_add, Nat.pow_succ]
      congr 1
      ac_rfl
    rw [e, Nat.mul_add_div (Nat.pow_pos (by omega))]
    omega

theorem putL_getF : ∀ l : List UInt8, l.length ≤ 8 → putL (getF l) l.length = l
  | [], _ => rfl
  | b :: l, h => by
    simp only [List.length_cons] at h ⊢
    have hl := getF_lt l (by omega)
    have hb := b.toNat_lt
    rw [getF_cons b l (by omega)]
    unfold putL
    rw [putL_add _ _ _ _ (Nat.le_refl _), putL_getF l (by omega)]
    congr 1
    apply UInt8.toNat_inj.1
    rw [UInt8.toNat_ofNat', Nat.mul_comm, Nat.mul_add_div (Nat.pow_pos (by omega)), Nat.div_eq_of_lt hl]
    omega

theorem idle_cons (a b : UInt8) (r : List UInt8) : idleF (a :: b :: r) = ((a == 0 && decide (b.toNat < 128)) || (a == 255 && decide (128 ≤ b.toNat))) := by
  simp [idleF]

theorem sgn_idle (a b : UInt8) (r : List UInt8) (h : r.length ≤ 6) (hi : idleF (a :: b :: r) = true) : sgn (a :: b :: r) = sgn (b :: r) := by
  rw [idle_cons] at hi
  simp only [Bool.or_eq_true, Bool.and_eq_true, beq_iff_eq, decide_eq_true_eq] at hi
  have e := getF_cons a (b :: r) (by simp; omega)
  unfold sgn
  simp only [List.getD_cons_zero, List.length_cons] at e ⊢
  rcases hi with ⟨rfl, hb⟩ | ⟨rfl, hb⟩
  · have : (0 : UInt8).toNat = 0 := rfl
    rw [this] at e ⊢
    rw [if_pos (by omega), if_pos hb, e]
    simp
  · have : (255 : UInt8).toNat = 255 := rfl
    rw [this] at e ⊢
    rw [if_neg (by omega), if_neg (by omega), e, Int.pow_succ (256 : Int) (r.length + 1)]
    have : ((255 * 256 ^ (r.length + 1) + getF (b :: r) : Nat) : Int) = 255 * (256 : Int) ^ (r.length + 1) + (getF (b :: r) : Int) := by
      rw [Int.natCast_add, Int.natCast_mul, Int.natCast_pow]; rfl
    rw [this]
    omega

theorem sgn_eight (l : List UInt8) (h : l.length = 8) : (sgn l) % 18446744073709551616 = (getF l : Int) ∧ -9223372036854775808 ≤ sgn l ∧ sgn l < 9223372036854775808 := by
  match l, h with
  | b :: r, h =>
    have hr : r.length = 7 := by simpa using h
    have hR := getF_lt r (by omega)
    have hb := b.toNat_lt
    unfold sgn
    simp only [List.getD_cons_zero, List.length_cons, hr]
    rw [getF_cons b r (by omega), hr]
    rw [hr] at hR
    simp only [Nat.reducePow, Int.reducePow, Nat.reduceAdd] at hR ⊢
    split <;> omega

theorem ext_one (l : List UInt8) (h1 : 1 ≤ l.length) (h : l.length ≤ 7) : ∃ l', l'.length = l.length + 1 ∧ sgn l' = sgn l ∧ trim l' = trim l := by
  match l, h1 with
  | b :: r, _ =>
    by_cases hb : b.toNat < 128
    · have hi : idleF (0 :: b :: r) = true := by rw [idle_cons]; simp [hb]
      exact ⟨0 :: b :: r, by simp, sgn_idle 0 b r (by simp at h; omega) hi, trim_idle hi⟩
    · have hi : idleF (255 :: b :: r) = true := by rw [idle_cons]; simp; omega
      exact ⟨255 :: b :: r, by simp, sgn_idle 255 b r (by simp at h; omega) hi, trim_idle hi⟩

theorem ext_all : ∀ (k : Nat) (l : List UInt8), 1 ≤ l.length → l.length + k ≤ 8 → ∃ l', l'.length = l.length + k ∧ sgn l' = sgn l ∧ trim l' = trim l
  | 0, l, _, _ => ⟨l, rfl, rfl, rfl⟩
  | k + 1, l, h1, h => by
    obtain ⟨l1, a1, a2, a3⟩ := ext_one l h1 (by omega)
    obtain ⟨l2, b1, b2, b3⟩ := ext_all k l1 (by omega) (by omega)
    exact ⟨l2, by omega, b2.trans a2, b3.trans a3⟩

/-- Octets that are no number's waste come back. -/
theorem oct_back (l : List UInt8) (h : bad l = false) : intF (sgn l) = l ∧ -9223372036854775808 ≤ sgn l ∧ sgn l < 9223372036854775808 := by
  unfold bad at h
  simp only [Bool.or_eq_false_iff, decide_eq_false_iff_not] at h
  obtain ⟨h1, h8, hi⟩ := h
  obtain ⟨l', a1, a2, a3⟩ := ext_all (8 - l.length) l (by omega) (by omega)
  have hl : l'.length = 8 := by omega
  obtain ⟨s1, s2, s3⟩ := sgn_eight l' hl
  rw [a2] at s1 s2 s3
  refine ⟨?_, s2, s3⟩
  have e : putL (sgn l % 18446744073709551616).toNat 8 = l' := by
    rw [s1, Int.toNat_natCast, ← hl]
    exact putL_getF l' (by omega)
  unfold intF
  rw [e, a3, trim_done hi]
end Go.Proofs.YtfaailjhioobhaaGreat

