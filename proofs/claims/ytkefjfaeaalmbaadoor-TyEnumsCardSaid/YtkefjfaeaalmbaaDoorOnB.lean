/- ident's functions on runes, walked. -/
import Derived.Test.YtkefjfaeaalmbaaDoorProg
import Derived.WalkKit
import Derived.Laws.RangeAny
import Derived.StringKeys
set_option linter.all false
set_option maxRecDepth 20000
namespace Go.Proofs
open Go.RowKit

def smallB (c : Int) : Bool := decide (97 ≤ c) && decide (c ≤ 122)
def greatB (c : Int) : Bool := decide (65 ≤ c) && decide (c ≤ 90)
def digitB (c : Int) : Bool := decide (48 ≤ c) && decide (c ≤ 57)
def wordB (c : Int) : Bool := smallB c || greatB c || digitB c || c == 95
/-- The name's test on bytes. -/
def nameB (p : Int → Bool) (l : List UInt8) : Bool := l.all (fun b => wordB b.toNat) && (match l with | [] => false | b :: _ => p b.toNat) && decide (l.length ≤ 12)
theorem nameB_head {p : Int → Bool} {l : List UInt8} (h : 0 < l.length) (hn : p (l[0].toNat : Int) = false) : nameB p l = false := by
  cases l with
  | nil => simp at h
  | cons a b =>
    simp only [List.getElem_cons_zero] at hn
    unfold nameB
    simp only [hn, Bool.and_false, Bool.false_and]
theorem wordB_s {c : Int} (h : smallB c = true) : wordB c = true := by simp only [wordB, h, Bool.true_or]
theorem wordB_g {c : Int} (h : greatB c = true) : wordB c = true := by simp only [wordB, h, Bool.true_or, Bool.or_true]
theorem wordB_d {c : Int} (h : digitB c = true) : wordB c = true := by simp only [wordB, h, Bool.true_or, Bool.or_true]
theorem wordB_u {c : Int} (h : c = 95) : wordB c = true := by subst h; rfl
theorem wordB_hi {c : Int} (h : 128 ≤ c) : wordB c = false := by simp only [wordB, smallB, greatB, digitB, Bool.or_eq_false_iff, Bool.and_eq_false_iff, decide_eq_false_iff_not, beq_eq_false_iff_ne]; omega
theorem wordB_n {c : Int} (h1 : smallB c = false) (h2 : greatB c = false) (h3 : digitB c = false) (h4 : c ≠ 95) : wordB c = false := by simp only [wordB, h1, h2, h3, Bool.or_self, Bool.false_or, beq_eq_false_iff_ne]; exact h4
structure OkTo (p : Int → Bool) (l : List UInt8) (k : Nat) : Prop where
  all : ∀ b ∈ l.take k, wordB b.toNat = true
  fst : 0 < k → ∀ b, l.head? = some b → p b.toNat = true
theorem OkTo.zero (p : Int → Bool) (l : List UInt8) : OkTo p l 0 := ⟨fun b hb => (by rw [List.take_zero] at hb; cases hb), fun h => absurd h (by decide)⟩
theorem OkTo.step {p : Int → Bool} {s : ByteArray} {k : Nat} (h : k < s.size) (hI : OkTo p s.data.toList k) :
    ((k = 0 → p ((s[k]'h).toNat : Int) = true) → wordB ((s[k]'h).toNat : Int) = true → OkTo p s.data.toList (k + 1)) ∧
    ((k = 0 ∧ p ((s[k]'h).toNat : Int) = false) ∨ wordB ((s[k]'h).toNat : Int) = false → nameB p s.data.toList = false) := by
  have hl : k < s.data.toList.length := by rw [Array.length_toList]; exact h
  have hg : s.data.toList[k] = s[k]'h := rfl
  refine ⟨fun h1 h2 => ⟨fun b hb => ?_, fun _ b hb => ?_⟩, fun hn => ?_⟩
  · rw [List.take_succ_eq_append_getElem hl] at hb
    rcases List.mem_append.1 hb with hb | hb
    · exact hI.all b hb
    · simp only [List.mem_singleton] at hb
      subst hb; rw [hg]; exact h2
  · by_cases k0 : k = 0
    · subst k0
      have : s.data.toList.head? = some s.data.toList[0] := by rw [List.head?_eq_getElem?, List.getElem?_eq_getElem hl]
      rw [this] at hb
      cases hb
      rw [hg]; exact h1 rfl
    · exact hI.fst (by omega) b hb
  · rcases hn with ⟨k0, hn⟩ | hn
    · subst k0
      exact nameB_head hl (by rw [hg]; exact hn)
    · have : s.data.toList.all (fun b => wordB b.toNat) = false := by
        rw [List.all_eq_false]
        exact ⟨s.data.toList[k], List.getElem_mem hl, by rw [hg, hn]; decide⟩
      unfold nameB
      rw [this]; rfl
theorem OkTo.done {p : Int → Bool} {l : List UInt8} (h : OkTo p l l.length) : nameB p l = (decide (1 ≤ l.length) && decide (l.length ≤ 12)) := by
  have h1 : l.all (fun b => wordB b.toNat) = true := by
    rw [List.all_eq_true]
    have := h.all
    rw [List.take_length] at this
    exact this
  unfold nameB
  rw [h1]
  cases l with
  | nil => rfl
  | cons a b =>
    simp only [Bool.true_and]
    rw [h.fst (by simp) a rfl]
    simp

set_option maxRecDepth 100000 in
theorem Tryd.small_w (c : Int) (W : World) : Calls Tryd.prog 40 #[.int .i32 c] W fun e w' => e = .returned (.bool (smallB c)) ∧ w' = W := by
  go_enter Tryd.func40, Tryd.ntmps40
  go_wp2
  all_goals go_ret
  all_goals (refine ⟨?_, rfl⟩; simp_all [smallB])
  all_goals omega
set_option maxRecDepth 100000 in
theorem Tryd.great_w (c : Int) (W : World) : Calls Tryd.prog 42 #[.int .i32 c] W fun e w' => e = .returned (.bool (greatB c)) ∧ w' = W := by
  go_enter Tryd.func42, Tryd.ntmps42
  go_wp2
  all_goals go_ret
  all_goals (refine ⟨?_, rfl⟩; simp_all [greatB])
  all_goals omega
set_option maxRecDepth 100000 in
theorem Tryd.digit_w (c : Int) (W : World) : Calls Tryd.prog 47 #[.int .i32 c] W fun e w' => e = .returned (.bool (digitB c)) ∧ w' = W := by
  go_enter Tryd.func47, Tryd.ntmps47
  go_wp2
  all_goals go_ret
  all_goals (refine ⟨?_, rfl⟩; simp_all [digitB])
  all_goals omega

set_option maxHeartbeats 4000000 in
set_option maxRecDepth 100000 in
theorem Tryd.name_small (s : ByteArray) (w : World) (hs : s.size ≤ 140737488351232) :
    Calls Tryd.prog 39 #[.string s, .func (.func 40) #[] #[]] w fun e w' => e = .returned (.bool (nameB smallB s.data.toList)) ∧ Below w.heap.size w w' := by
  go_enter Tryd.func39, Tryd.ntmps39
  go_wp2
  go_loopw [9] (fun _ wr => ∃ pos : Nat, pos ≤ s.size ∧ wr = w.iter s pos ∧ OkTo smallB s.data.toList pos)
    (fun _ wr => s.size - wr.iterPos w.heap.size)
  case atStart => exact ⟨0, Nat.zero_le _, rfl, OkTo.zero _ _⟩
  case round =>
    obtain ⟨pos, hp, rfl, hI⟩ := hrel
    by_cases hlt : pos < s.size
    · by_cases ha : (s[pos]'hlt).toNat < 128
      · have hnx := fun ty => run_next_ascii (P := Tryd.prog) w s pos ty hlt ha
        have hb := OkTo.step (p := smallB) hlt hI
        generalize hc : (s[pos]'hlt).toNat = c at *
        go_wp2_with (first
          | (go_at_call 40; refine (Tryd.small_w _ _).mono ?_; rintro e w' ⟨rfl, rfl⟩)
          | (go_at_call 42; refine (Tryd.great_w _ _).mono ?_; rintro e w' ⟨rfl, rfl⟩)
          | (go_at_call 47; refine (Tryd.digit_w _ _).mono ?_; rintro e w' ⟨rfl, rfl⟩)
          | go_in)
        all_goals first
          | (refine ⟨⟨pos + 1, by omega, (by first | rfl | (rw [show pos = 0 by assumption])), hb.1 (by first | exact fun _ => by assumption | exact fun h => absurd h (by assumption)) (by first | exact wordB_s (by assumption) | exact wordB_g (by assumption) | exact wordB_d (by assumption) | exact wordB_u (by simpa using (show ((c : Int) != 95) = false by assumption)))⟩, ?_⟩)
          | skip
        all_goals first
          | (simp only [World.iterPos_iter]; omega)
          | (go_ret
             refine ⟨?_, (Below.refl _ w).alloc (Nat.le_refl _) _⟩
             first
               | rw [hb.2 (.inl ⟨by assumption, by simpa using (show ¬ smallB (c : Int) = true by assumption)⟩)]; rfl
               | rw [hb.2 (.inr (wordB_n (by simpa using (show ¬ smallB (c : Int) = true by assumption)) (by simpa using (show ¬ greatB (c : Int) = true by assumption)) (by simpa using (show ¬ digitB (c : Int) = true by assumption)) (by simpa using (show ((c : Int) != 95) = true by assumption))))]; rfl)
      · have hnx := fun ty => run_next_any (P := Tryd.prog) w s pos ty hlt
        have hb := (OkTo.step (p := smallB) hlt hI).2 (.inr (wordB_hi (by omega)))
        have hge := (decode_high s pos hlt (by omega)).1
        generalize (Utf8.decode s pos).2 = dn at *
        generalize (Utf8.decode s pos).1 = c at *
        go_wp2_with (first
          | (go_at_call 40; refine (Tryd.small_w _ _).mono ?_; rintro e w' ⟨rfl, rfl⟩)
          | (go_at_call 42; refine (Tryd.great_w _ _).mono ?_; rintro e w' ⟨rfl, rfl⟩)
          | (go_at_call 47; refine (Tryd.digit_w _ _).mono ?_; rintro e w' ⟨rfl, rfl⟩)
          | go_in)
        all_goals first
          | (exfalso
             first
               | exact absurd (wordB_s (c := (c : Int)) (by assumption)) (by rw [wordB_hi (by omega)]; decide)
               | exact absurd (wordB_g (c := (c : Int)) (by assumption)) (by rw [wordB_hi (by omega)]; decide)
               | exact absurd (wordB_d (c := (c : Int)) (by assumption)) (by rw [wordB_hi (by omega)]; decide))
          | (go_ret
             refine ⟨?_, (Below.refl _ w).alloc (Nat.le_refl _) _⟩
             rw [hb]; rfl)
    · have hnx := fun ty => run_next_end (P := Tryd.prog) w s pos ty hlt
      go_wp2
      all_goals go_ret
      all_goals
        have hps : pos = s.data.toList.length := by rw [Array.length_toList]; exact Nat.le_antisymm hp (Nat.not_lt.1 hlt)
        have hz : s.data.toList.length = s.size := Array.length_toList
        have hN : nameB smallB s.data.toList = (decide (1 ≤ s.size) && decide (s.size ≤ 12)) := by
          have hI : OkTo smallB s.data.toList s.data.toList.length := hps ▸ hI
          have := hI.done; rw [hz] at this; exact this
        refine ⟨?_, (Below.refl _ w).alloc (Nat.le_refl _) _⟩
        rw [hN]
      · show Ending.returned (Value.bool (decide ((s.size : Int) ≤ 12))) = _
        have e : decide ((s.size : Int) ≤ 12) = (decide (1 ≤ s.size) && decide (s.size ≤ 12)) := by
          have h1 : 1 ≤ s.size := by omega
          rw [decide_eq_true h1, Bool.true_and, Bool.eq_iff_iff]; simp; omega
        rw [e]
      · show Ending.returned (Value.bool false) = _
        have e : decide (1 ≤ s.size) = false := by
          have h1 : ¬ 1 ≤ s.size := by omega
          exact decide_eq_false h1
        rw [e]; rfl

set_option maxHeartbeats 4000000 in
set_option maxRecDepth 100000 in
theorem Tryd.name_great (s : ByteArray) (w : World) (hs : s.size ≤ 140737488351232) :
    Calls Tryd.prog 39 #[.string s, .func (.func 42) #[] #[]] w fun e w' => e = .returned (.bool (nameB greatB s.data.toList)) ∧ Below w.heap.size w w' := by
  go_enter Tryd.func39, Tryd.ntmps39
  go_wp2
  go_loopw [9] (fun _ wr => ∃ pos : Nat, pos ≤ s.size ∧ wr = w.iter s pos ∧ OkTo greatB s.data.toList pos)
    (fun _ wr => s.size - wr.iterPos w.heap.size)
  case atStart => exact ⟨0, Nat.zero_le _, rfl, OkTo.zero _ _⟩
  case round =>
    obtain ⟨pos, hp, rfl, hI⟩ := hrel
    by_cases hlt : pos < s.size
    · by_cases ha : (s[pos]'hlt).toNat < 128
      · have hnx := fun ty => run_next_ascii (P := Tryd.prog) w s pos ty hlt ha
        have hb := OkTo.step (p := greatB) hlt hI
        generalize hc : (s[pos]'hlt).toNat = c at *
        go_wp2_with (first
          | (go_at_call 40; refine (Tryd.small_w _ _).mono ?_; rintro e w' ⟨rfl, rfl⟩)
          | (go_at_call 42; refine (Tryd.great_w _ _).mono ?_; rintro e w' ⟨rfl, rfl⟩)
          | (go_at_call 47; refine (Tryd.digit_w _ _).mono ?_; rintro e w' ⟨rfl, rfl⟩)
          | go_in)
        all_goals first
          | (refine ⟨⟨pos + 1, by omega, (by first | rfl | (rw [show pos = 0 by assumption])), hb.1 (by first | exact fun _ => by assumption | exact fun h => absurd h (by assumption)) (by first | exact wordB_s (by assumption) | exact wordB_g (by assumption) | exact wordB_d (by assumption) | exact wordB_u (by simpa using (show ((c : Int) != 95) = false by assumption)))⟩, ?_⟩)
          | skip
        all_goals first
          | (simp only [World.iterPos_iter]; omega)
          | (go_ret
             refine ⟨?_, (Below.refl _ w).alloc (Nat.le_refl _) _⟩
             first
               | rw [hb.2 (.inl ⟨by assumption, by simpa using (show ¬ greatB (c : Int) = true by assumption)⟩)]; rfl
               | rw [hb.2 (.inr (wordB_n (by simpa using (show ¬ smallB (c : Int) = true by assumption)) (by simpa using (show ¬ greatB (c : Int) = true by assumption)) (by simpa using (show ¬ digitB (c : Int) = true by assumption)) (by simpa using (show ((c : Int) != 95) = true by assumption))))]; rfl)
      · have hnx := fun ty => run_next_any (P := Tryd.prog) w s pos ty hlt
        have hb := (OkTo.step (p := greatB) hlt hI).2 (.inr (wordB_hi (by omega)))
        have hge := (decode_high s pos hlt (by omega)).1
        generalize (Utf8.decode s pos).2 = dn at *
        generalize (Utf8.decode s pos).1 = c at *
        go_wp2_with (first
          | (go_at_call 40; refine (Tryd.small_w _ _).mono ?_; rintro e w' ⟨rfl, rfl⟩)
          | (go_at_call 42; refine (Tryd.great_w _ _).mono ?_; rintro e w' ⟨rfl, rfl⟩)
          | (go_at_call 47; refine (Tryd.digit_w _ _).mono ?_; rintro e w' ⟨rfl, rfl⟩)
          | go_in)
        all_goals first
          | (exfalso
             first
               | exact absurd (wordB_s (c := (c : Int)) (by assumption)) (by rw [wordB_hi (by omega)]; decide)
               | exact absurd (wordB_g (c := (c : Int)) (by assumption)) (by rw [wordB_hi (by omega)]; decide)
               | exact absurd (wordB_d (c := (c : Int)) (by assumption)) (by rw [wordB_hi (by omega)]; decide))
          | (go_ret
             refine ⟨?_, (Below.refl _ w).alloc (Nat.le_refl _) _⟩
             rw [hb]; rfl)
    · have hnx := fun ty => run_next_end (P := Tryd.prog) w s pos ty hlt
      go_wp2
      all_goals go_ret
      all_goals
        have hps : pos = s.data.toList.length := by rw [Array.length_toList]; exact Nat.le_antisymm hp (Nat.not_lt.1 hlt)
        have hz : s.data.toList.length = s.size := Array.length_toList
        have hN : nameB greatB s.data.toList = (decide (1 ≤ s.size) && decide (s.size ≤ 12)) := by
          have hI : OkTo greatB s.data.toList s.data.toList.length := hps ▸ hI
          have := hI.done; rw [hz] at this; exact this
        refine ⟨?_, (Below.refl _ w).alloc (Nat.le_refl _) _⟩
        rw [hN]
      · show Ending.returned (Value.bool (decide ((s.size : Int) ≤ 12))) = _
        have e : decide ((s.size : Int) ≤ 12) = (decide (1 ≤ s.size) && decide (s.size ≤ 12)) := by
          have h1 : 1 ≤ s.size := by omega
          rw [decide_eq_true h1, Bool.true_and, Bool.eq_iff_iff]; simp; omega
        rw [e]
      · show Ending.returned (Value.bool false) = _
        have e : decide (1 ≤ s.size) = false := by
          have h1 : ¬ 1 ≤ s.size := by omega
          exact decide_eq_false h1
        rw [e]; rfl
end Go.Proofs
