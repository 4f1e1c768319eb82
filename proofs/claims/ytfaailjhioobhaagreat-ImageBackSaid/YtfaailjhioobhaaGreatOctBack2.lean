/- The octet functions: what each tells. -/
import Derived.Test.YtfaailjhioobhaaGreatFns
set_option linter.all false
set_option maxRecDepth 20000
namespace Go.Proofs.YtfaailjhioobhaaGreat
open Go.Nk

def small (l : List UInt8) : Prop := l.length < 9223372036854775808

def getF (l : List UInt8) : Nat := l.foldl (fun a b => (a * 256 + b.toNat) % 18446744073709551616) 0

theorem getF_take (l : List UInt8) (k : Nat) (h : k < l.length) : getF (l.take (k + 1)) = (getF (l.take k) * 256 + (l.getD k 0).toNat) % 18446744073709551616 := by
  unfold getF
  rw [List.take_add_one, List.foldl_append]
  simp [List.getD, h]

theorem or8 (a b : Nat) (hb : b < 256) : bitsOf .or .u64 ((a : Int) * 2 ^ min 8 64 % 18446744073709551616) ((b : Int) % 18446744073709551616) = ((a * 256 + b) % 18446744073709551616 : Nat) := by
  have e : ((a : Int) * 2 ^ min 8 64 % 18446744073709551616) = ((2 ^ 8 * (a % 2 ^ 56) : Nat) : Int) := by
    rw [show min 8 64 = 8 from by decide]
    omega
  have e2 : ((b : Int) % 18446744073709551616) = ((b : Nat) : Int) := by omega
  rw [e, e2, bitsOf_or, IntKind.wrap_u64]
  have e3 : (((2 ^ 8 * (a % 2 ^ 56) : Nat) : Int) % ((2 ^ IntKind.u64.bits : Nat) : Int)).toNat = 2 ^ 8 * (a % 2 ^ 56) := by simp only [IntKind.bits]; omega
  have e4 : ((b : Int) % ((2 ^ IntKind.u64.bits : Nat) : Int)).toNat = b := by simp only [IntKind.bits]; omega
  rw [e3, e4, ← Nat.two_pow_add_eq_or_of_lt (by omega)]
  omega

def fGet (l : List UInt8) : Prop × DV := (small l, .int .u64 (getF l))

theorem ok_octet_Get : OkP Tryz.prog 115 (specB1 fGet) := by
  refine OkP.mk (ps := []) (hs := []) (n := 1) trivial trivial m_octet_Get (specB1_ok fun l h => ?_)
  have h2 : l.length < 9223372036854775808 := h
  simp only [↓sqP, sqT, d_octet_Get, fGet, dvalX, dval, ↓reduceIte, reduceCtorEq]
  refine dwp_loop (fun k : Nat => ⟨[(3, .int .u64 (getF (l.take k))), (6, .sl (bsl l)), (7, .int .i64 l.length), (8, .int .i64 k)], []⟩) (fun k => k ≤ l.length) (fun k => l.length - k) 0 (by exact Nat.le_refl _) ?_ (Nat.zero_le _) fun k hk => ?_
  · simp only [cut_some, List.map_cons, List.map_nil, get_cons, Nk.get_nil, Nat.reduceEqDiff, ↓reduceIte, DV.cut, DV.inB, List.take_nil, List.take_zero]; rfl
  · by_cases hlt : k < l.length
    · simp only [↓sqP, sqT, ↓dwp_cond, dvalX, dval, Nat.reduceEqDiff, ↓reduceIte, dBin, dInt, dLoad, cellsAt, List.length_cons, List.length_nil, List.getD_cons_zero, Int.reduceToNat, IntKind.bits, Int.reduceLE, IntKind.wrap_u64, IntKind.wrap_i64, bsl_getD hlt, hlt]
      refine ⟨by omega, k + 1, ?_, by omega, by omega⟩
      simp only [cut_some, List.map_cons, List.map_nil, get_cons, Nk.get_nil, Nat.reduceEqDiff, ↓reduceIte, Nat.succ_ne_self, DV.cut, DV.inB, List.take_nil, DS.mk.injEq, List.cons.injEq, Prod.mk.injEq, DV.int.injEq, true_and, and_true]
      exact ⟨by rw [getF_take l k hlt, or8 _ _ (UInt8.toNat_lt _)], by omega⟩
    · simp only [↓sqP, sqT, ↓dwp_cond, dvalX, dval, Nat.reduceEqDiff, ↓reduceIte, dBin, dInt, retV, DR.val, fzT, fzV, fz1, DV.immB, Bool.false_eq_true, hlt]
      rw [List.take_of_length_le (by omega)]

def fSame (l l' : List UInt8) : Prop × DV := (small l ∧ small l', .bool (l == l'))

theorem take_succ_eq {l l' : List UInt8} {k : Nat} (h : k < l.length) (h' : k < l'.length) (e : l.take k = l'.take k) : l.take (k + 1) = l'.take (k + 1) ↔ l.getD k 0 = l'.getD k 0 := by
  rw [List.take_add_one (l := l), List.take_add_one (l := l'), e, List.append_cancel_left_eq]
  simp [List.getD, h, h']

theorem ok_noriaref01_Same : OkP Tryz.prog 11 (specB2 fSame) := by
  refine OkP.mk (ps := []) (hs := []) (n := 2) trivial trivial m_noriaref01_Same (specB2_ok fun l l' h => ?_)
  have h2 : l.length < 9223372036854775808 := h.1
  have h3 : l'.length < 9223372036854775808 := h.2
  by_cases hl : l.length = l'.length
  · have hd : ((l.length : Int) != (l'.length : Int)) = false := by simp [hl]
    simp only [↓sqP, sqT, d_noriaref01_Same, fSame, ↓dwp_cond, dvalX, dval, Nat.reduceEqDiff, ↓reduceIte, dBin, dInt, Bool.false_eq_true, reduceCtorEq, hd]
    refine dwp_loop (fun k : Nat => ⟨[(0, .sl (bsl l)), (1, .sl (bsl l')), (5, .int .i64 k)], []⟩) (fun k => k ≤ l.length ∧ l.take k = l'.take k) (fun k => l.length - k) 0 (by exact Nat.le_refl _) ?_ ⟨Nat.zero_le _, rfl⟩ fun k hk => ?_
    · simp only [cut_some, List.map_cons, List.map_nil, get_cons, Nk.get_nil, Nat.reduceEqDiff, ↓reduceIte, Nat.succ_ne_self, DV.cut, DV.inB, List.take_nil, reduceCtorEq]; rfl
    · by_cases hlt : k < l.length
      · have hlt' : k < l'.length := by omega
        by_cases hb : l.getD k 0 = l'.getD k 0
        · have hb' : (l.getD k 0 != l'.getD k 0) = false := bne_eq_false_iff_eq.2 hb
          simp only [↓sqP, sqT, ↓dwp_cond, dvalX, dval, Nat.reduceEqDiff, ↓reduceIte, dBin, dInt, dLoad, cellsAt, Bool.false_eq_true, reduceCtorEq, List.length_cons, List.length_nil, List.getD_cons_zero, IntKind.wrap_i64, bsl_getD hlt, bsl_getD hlt', hlt, hlt', bne_byte, hb']
          refine ⟨by omega, by omega, k + 1, ?_, ⟨by omega, (take_succ_eq hlt hlt' hk.2).2 hb⟩, by omega⟩
          simp only [cut_some, List.map_cons, List.map_nil, get_cons, Nk.get_nil, Nat.reduceEqDiff, ↓reduceIte, Nat.succ_ne_self, DV.cut, DV.inB, List.take_nil, reduceCtorEq, DS.mk.injEq, List.cons.injEq, Prod.mk.injEq, DV.int.injEq, true_and, and_true]
          omega
        · have hb' : (l.getD k 0 != l'.getD k 0) = true := bne_iff_ne.2 hb
          simp only [↓sqP, sqT, ↓dwp_cond, dvalX, dval, Nat.reduceEqDiff, ↓reduceIte, dBin, dInt, dLoad, cellsAt, retV, DR.val, fzT, fzV, fz1, DV.immB, reduceCtorEq, List.length_cons, List.length_nil, List.getD_cons_zero, bsl_getD hlt, bsl_getD hlt', hlt, hlt', bne_byte, hb']
          have : l ≠ l' := by rintro rfl; exact hb rfl
          refine ⟨by omega, by omega, ?_⟩
          simp [this]
      · simp only [↓sqP, sqT, ↓dwp_cond, dvalX, dval, Nat.reduceEqDiff, ↓reduceIte, dBin, dInt, retV, DR.val, fzT, fzV, fz1, DV.immB, Bool.false_eq_true, reduceCtorEq, hlt]
        have e := hk.2
        rw [List.take_of_length_le (by omega), List.take_of_length_le (by omega)] at e
        simp [e]
  · have hd : ((l.length : Int) != (l'.length : Int)) = true := by simp; omega
    simp only [↓sqP, sqT, d_noriaref01_Same, fSame, ↓dwp_cond, dvalX, dval, Nat.reduceEqDiff, ↓reduceIte, dBin, dInt, retV, DR.val, fzT, fzV, fz1, DV.immB, reduceCtorEq, hd]
    have : l ≠ l' := by rintro rfl; exact hl rfl
    simp [this]

def idleF (l : List UInt8) : Bool := decide (2 ≤ l.length) && ((l.getD 0 0 == 0 && decide ((l.getD 1 0).toNat < 128)) || (l.getD 0 0 == 255 && decide (128 ≤ (l.getD 1 0).toNat)))

theorem and128 (b : UInt8) : (bitsOf .and .u8 (b.toNat : Int) 128 != 0) = decide (128 ≤ b.toNat) := by
  have key : ∀ n : Nat, n < 256 → (IntKind.u8.wrap ((((n : Int) % (2 ^ IntKind.u8.bits : Nat)).toNat &&& ((128 : Int) % (2 ^ IntKind.u8.bits : Nat)).toNat : Nat)) != 0) = decide (128 ≤ n) := by decide +kernel
  rw [bitsOf_and]
  exact key _ b.toNat_lt

def fIdle (l : List UInt8) : Prop × DV := (small l, .bool (idleF l))

theorem ok_octet_idle : OkP Tryz.prog 135 (specB1 fIdle) := by
  refine OkP.mk (ps := []) (hs := []) (n := 1) trivial trivial m_octet_idle (specB1_ok fun l h => ?_)
  have h2 : l.length < 9223372036854775808 := h
  by_cases hlt : l.length < 2
  · have hd : decide ((l.length : Int) < 2) = true := by simp; omega
    have : idleF l = false := by simp [idleF]; omega
    simp only [↓sqP, sqT, d_octet_idle, fIdle, ↓dwp_cond, dvalX, dval, ↓reduceIte, dBin, dInt, retV, DR.val, fzT, fzV, fz1, DV.immB, reduceCtorEq, hd, this]
  have hd : decide ((l.length : Int) < 2) = false := by simp; omega
  have g0 : 0 < l.length := by omega
  have g1 : 1 < l.length := by omega
  have g0' : (0 : Int) < (l.length : Int) := by omega
  have g1' : (1 : Int) < (l.length : Int) := by omega
  have e0 : (((l.getD 0 0).toNat : Int) == 0) = (l.getD 0 0 == 0) := beq_byte _ 0
  have e1 : (((l.getD 0 0).toNat : Int) == 255) = (l.getD 0 0 == 255) := beq_byte _ 255
  have e2 : idleF l = ((l.getD 0 0 == 0 && decide ((l.getD 1 0).toNat < 128)) || (l.getD 0 0 == 255 && decide (128 ≤ (l.getD 1 0).toNat))) := by simp [idleF]; omega
  have e3 : decide ((l.getD 1 0).toNat < 128) = !decide (128 ≤ (l.getD 1 0).toNat) := by
    generalize (l.getD 1 0).toNat = x
    by_cases h : 128 ≤ x
    · have : ¬ x < 128 := by omega
      simp [h, this]
    · have : x < 128 := by omega
      simp [h, this]
  rw [e3] at e2
  cases c0 : (l.getD 0 0 == 0) <;> cases c1 : (l.getD 0 0 == 255) <;> cases c2 : decide (128 ≤ (l.getD 1 0).toNat) <;> rw [c0, c1, c2] at e2 <;>
    simp only [↓sqP, sqT, d_octet_idle, fIdle, ↓dwp_cond, dvalX, dops_some, dval, Nat.reduceEqDiff, ↓reduceIte, dBin, dInt, dUn, dLoad, cellsAt, retV, DR.val, fzT, fzV, fz1, DV.immB, Bool.false_eq_true, reduceCtorEq, List.length_cons, List.length_nil, List.getD_cons_zero, Int.reduceToNat, Int.reduceLE, bsl_getD g0, bsl_getD g1, and128, e0, e1, c0, c1, c2, hd, e2, g0', g1', Bool.or_false, Bool.or_true]

def fClone (l : List UInt8) : Prop × DV := (l.length ≤ 4294967296, .sl (bsl l))

theorem ok_slices_Clone_byte_byte : OkP Tryz.prog 64 (specB1 fClone) := by
  refine OkP.mk (ps := []) (hs := []) (n := 1) trivial trivial m_slices_Clone_byte_byte (specB1_ok fun l h => ?_)
  have h2 : l.length ≤ 4294967296 := h
  have h3 : ∀ e ∈ bsl l, e.length = 1 := bsl_rows
  cases l with
  | nil =>
    simp only [↓sqP, sqT, d_slices_Clone_byte_byte, fClone, ↓dwp_cond, dvalX, dval, Nat.reduceEqDiff, ↓reduceIte, retV, DR.val, fzT, fzV, fz1, List.map_nil, Bool.false_eq_true, forall_const, reduceCtorEq, List.length_cons, List.length_nil, Nat.reduceLeDiff, List.all_nil, List.getElem?_cons_zero, List.set_cons_zero, elemsOf, dAppend, freezeAt, List.drop_zero, List.not_mem_nil, List.nil_append, fzLL, bsl, List.map_nil, List.all_nil, fzLL, dAppend, elemsOf, List.nil_append]
    simp [lenMax]
  | cons b r =>
    have e : bsl (b :: r) = [.int .u8 b.toNat] :: bsl r := rfl
    rw [e] at h3
    simp only [↓sqP, sqT, d_slices_Clone_byte_byte, fClone, ↓dwp_cond, dvalX, dval, Nat.reduceEqDiff, ↓reduceIte, retV, DR.val, fzT, fzV, fz1, List.map_nil, Bool.false_eq_true, forall_const, reduceCtorEq, List.length_cons, List.length_nil, Nat.reduceLeDiff, List.all_nil, List.getElem?_cons_zero, List.set_cons_zero, elemsOf, dAppend, freezeAt, List.drop_zero, List.not_mem_nil, List.nil_append, fzLL, e]
    refine ⟨⟨h3, h2⟩, Nat.le_refl _, ?_⟩
    rw [List.take_of_length_le (by simp [bsl_length])]

/-- The k lower bytes, the highest first. -/
def putL (v : Nat) : Nat → List UInt8
  | 0 => []
  | k + 1 => UInt8.ofNat (v / 256 ^ k) :: putL v k

theorem putL_length (v : Nat) : ∀ k, (putL v k).length = k
  | 0 => rfl
  | k + 1 => by simp [putL, putL_length v k]

theorem byte_at (v k : Nat) (hk : k < 8) : IntKind.u8.wrap (((v : Nat) : Int).fdiv (2 ^ min (8 * (k : Int)).toNat 64)) = ((UInt8.ofNat (v / 256 ^ k)).toNat : Int) := by
  have h1 : min (8 * (k : Int)).toNat 64 = 8 * k := by omega
  have h2 : ((2 : Int) ^ (8 * k)) = ((256 ^ k : Nat) : Int) := by rw [Int.pow_mul]; norm_cast
  rw [h1, h2, Int.fdiv_eq_ediv_of_nonneg _ (Int.natCast_nonneg _), IntKind.wrap_u8, UInt8.toNat_ofNat', ← Int.natCast_ediv]
  generalize v / 256 ^ k = d
  omega

theorem set_step (b : UInt8) (r : List UInt8) {n k : Nat} (h : k < n) : (bsl (List.replicate (n - k) 0 ++ r)).set (n - 1 - k) [.int .u8 (b.toNat : Int)] = bsl (List.replicate (n - (k + 1)) 0 ++ b :: r) := by
  obtain ⟨m, rfl⟩ : ∃ m, n = m + 1 + k := ⟨n - 1 - k, by omega⟩
  have e1 : m + 1 + k - k = m + 1 := by omega
  have e2 : m + 1 + k - 1 - k = m := by omega
  have e3 : m + 1 + k - (k + 1) = m := by omega
  rw [e1, e2, e3]
  simp only [bsl, List.map_append, List.map_replicate, List.map_cons]
  rw [List.replicate_succ', List.append_assoc]
  rw [List.set_append_right _ _ (by simp)]
  simp

def sPut : List DV → Prop × DV
  | [.int .u64 v, .int .i64 n] => (0 ≤ v ∧ v < 18446744073709551616, .sl (bsl (if n < 1 ∨ 8 < n then [] else putL v.toNat n.toNat)))
  | _ => (False, .undef)

theorem ok_octet_Put : OkP Tryz.prog 60 sPut := by
  refine OkP.mk (ps := []) (hs := []) (n := 2) trivial trivial m_octet_Put fun args h => ?_
  unfold sPut at h ⊢
  split at h
  · rename_i v n
    refine ⟨rfl, ?_⟩
    by_cases h1 : n < 1
    · simp only [↓sqP, sqT, d_octet_Put, ↓dwp_cond, dvalX, dops_some, dval, frameFrom, Nat.reduceEqDiff, ↓reduceIte, dBin, dInt, retV, DR.val, fzT, fzV, fz1, List.map_nil, h1, bsl]
    by_cases h8 : 8 < n
    · simp only [↓sqP, sqT, d_octet_Put, ↓dwp_cond, dvalX, dops_some, dval, frameFrom, Nat.reduceEqDiff, ↓reduceIte, dBin, dInt, retV, DR.val, fzT, fzV, fz1, List.map_nil, gt_iff_lt, h1, h8, bsl]
    simp only [↓sqP, sqT, d_octet_Put, ↓dwp_cond, dvalX, dops_some, dval, frameFrom, Nat.reduceEqDiff, ↓reduceIte, dBin, dInt, Bool.false_eq_true, List.length_cons, List.length_nil, List.nil_append, gt_iff_lt, h1, h8]
    obtain ⟨n', rfl⟩ : ∃ n' : Nat, n = n' := ⟨n.toNat, by omega⟩
    obtain ⟨v', rfl⟩ : ∃ v' : Nat, v = v' := ⟨v.toNat, by omega⟩
    refine ⟨⟨by omega, by omega, by (try simp only [lenMax]); (try simp only [lenCap]); omega⟩, ?_⟩
    refine dwp_loop (fun k : Nat => ⟨[(0, .int .u64 v'), (1, .int .i64 n'), (5, .own 0 n' 0 n'), (15, .int .i64 n'), (16, .int .i64 k)], [⟨.imm, 1, bsl (List.replicate (n' - k) 0 ++ putL v' k)⟩]⟩)
      (fun k => k ≤ n') (fun k => n' - k) 0 (by exact Nat.zero_le _) ?_ (Nat.zero_le _) fun k hk => ?_
    · simp only [cut_some, List.map_cons, List.map_nil, get_cons, Nk.get_nil, Nat.reduceEqDiff, ↓reduceIte, Nat.succ_ne_self, DV.cut, DV.inB, DObj.cut, List.take_nil, reduceCtorEq, Nat.zero_lt_one, decide_true, List.take_succ_cons, bsl, putL, Nat.sub_zero, List.append_nil, List.map_replicate]
      rfl
    · by_cases hlt : k < n'
      · have hi : ((n' : Int) - 1 - (k : Int)).toNat = n' - 1 - k := by omega
        have hl : (List.replicate (n' - k) (0 : UInt8) ++ putL v' k).length = n' := by simp [putL_length]; omega
        have hg : n' - 1 - k < (List.replicate (n' - k) (0 : UInt8) ++ putL v' k).length := by omega
        simp (disch := omega) only [↓sqP, sqT, ↓dwp_cond, dvalX, dval, Nat.reduceEqDiff, ↓reduceIte, dBin, dInt, fz1, DV.immB, reduceCtorEq, List.length_cons, List.length_nil, IntKind.bits, Nat.reduceLeDiff, wrap_i64_id, List.getElem?_cons_zero, List.set_cons_zero, dStore, fzL, cellsOf, setFrom, List.length_append, List.length_replicate, hlt, hi, bsl_getD hg, putL_length, List.set_cons_zero]
        refine ⟨by omega, ⟨by decide, by omega, by omega, by omega⟩, ⟨by omega, by omega⟩, k + 1, ?_, by omega, by omega⟩
        simp only [cut_some, List.map_cons, List.map_nil, get_cons, Nk.get_nil, Nat.reduceEqDiff, ↓reduceIte, Nat.succ_ne_self, DV.cut, DV.inB, DObj.cut, List.take_nil, reduceCtorEq, Nat.zero_lt_one, decide_true, List.take_succ_cons, byte_at v' k (by omega), set_step _ _ hlt]
        rfl
      · obtain rfl : k = n' := by omega
        simp only [↓sqP, sqT, ↓dwp_cond, dvalX, dval, Nat.reduceEqDiff, ↓reduceIte, dBin, dInt, retV, DR.val, fzT, fzV, fz1, Bool.false_eq_true, reduceCtorEq, List.getElem?_cons_zero, List.set_cons_zero, elemsOf, freezeAt, List.drop_zero, List.length_append, List.length_replicate, hlt]
        simp [putL_length, List.take_of_length_le, bsl_length]
  · exact h.elim

def trimN : Nat → List UInt8 → List UInt8
  | 0, l => l
  | n + 1, l => if idleF l then trimN n (l.drop 1) else l

def trim (l : List UInt8) : List UInt8 := trimN l.length l

theorem trim_idle {l : List UInt8} (h : idleF l = true) : trim l = trim (l.drop 1) := by
  cases l with
  | nil => simp [idleF] at h
  | cons a r => simp [trim, trimN, h]

theorem trim_done {l : List UInt8} (h : idleF l = false) : trim l = l := by
  cases l with
  | nil => rfl
  | cons a r => simp [trim, trimN, h]

def intF (x : Int) : List UInt8 := trim (putL (x % 18446744073709551616).toNat 8)

def sInt : List DV → Prop × DV
  | [.int .i64 x] => (-9223372036854775808 ≤ x ∧ x < 9223372036854775808, .sl (bsl (intF x)))
  | _ => (False, .undef)

theorem ok_octet_Int : OkP Tryz.prog 128 sInt := by
  refine OkP.mk (ps := [(60, sPut), (135, specB1 fIdle), (64, specB1 fClone)]) (hs := []) (n := 1) ⟨ok_octet_Put, ok_octet_idle, ok_slices_Clone_byte_byte, trivial⟩ trivial m_octet_Int fun args h => ?_
  unfold sInt at h ⊢
  split at h
  · rename_i x
    refine ⟨rfl, ?_⟩
    have hp : sPut [.int .u64 (x % 18446744073709551616), .int .i64 8] = (True, .sl (bsl (putL (x % 18446744073709551616).toNat 8))) := by
      simp [sPut]
      omega
    simp only [↓sqP, sqT, d_octet_Int, dvalX, dval, frameFrom, ↓reduceIte, fzVs, fzV, fz1, DV.immB, List.map_cons, List.map_nil, Bool.false_eq_true, reduceCtorEq, IntKind.wrap_u64, dCallP, viewVs, viewV, view1, noMemV, noMem, hp]
    refine dwp_loop (fun l : List UInt8 => ⟨[(3, .sl (bsl l))], []⟩) (fun l => trim l = intF x ∧ l.length ≤ 8) (fun l => l.length) (putL (x % 18446744073709551616).toNat 8) (by exact Nat.le_refl _) ?_ ⟨rfl, by simp [putL_length]⟩ fun l hk => ?_
    · simp only [cut_some, List.map_cons, List.map_nil, get_cons, Nk.get_nil, ↓reduceIte, DV.cut, DV.inB, List.take_nil]
    · have hsm : small l := by unfold small; omega
      cases hi : idleF l with
      | true =>
        have hl : 2 ≤ l.length := by simp [idleF] at hi; omega
        simp only [↓sqP, sqT, ↓dwp_cond, dvalX, dval, Nat.reduceEqDiff, ↓reduceIte, DV.immB, List.map_cons, List.map_nil, Option.map_some, Option.map_none, Int.reduceToNat, Int.reduceLE, dCallP, viewVs, viewV, view1, noMemV, noMem, fIdle, hi]
        refine ⟨hsm, by omega, l.drop 1, ?_, ⟨by rw [← hk.1, trim_idle hi], by simp; omega⟩, by simp; omega⟩
        simp only [cut_some, List.map_cons, List.map_nil, get_cons, Nk.get_nil, ↓reduceIte, DV.cut, DV.inB, List.take_nil]
      | false =>
        simp only [↓sqP, sqT, ↓dwp_cond, dvalX, dval, Nat.reduceEqDiff, ↓reduceIte, retV, DR.val, fzT, fzVs, fzV, fz1, DV.immB, List.map_cons, List.map_nil, Bool.false_eq_true, dCallP, viewVs, viewV, view1, noMemV, noMem, fIdle, fClone, hi]
        refine ⟨hsm, by omega, ?_⟩
        rw [← hk.1, trim_done hi]
  · exact h.elim

end Go.Proofs.YtfaailjhioobhaaGreat

/- The octet functions Back: what each tells. -/
set_option linter.all false
set_option maxRecDepth 20000
namespace Go.Proofs.YtfaailjhioobhaaGreat
open Go.Nk

/-! Back. -/
def bad (l : List UInt8) : Bool := decide (l.length < 1) || (decide (8 < l.length) || idleF l)

/-- The signed number that the octets stand for. -/
def sgn (l : List UInt8) : Int := if (l.getD 0 0).toNat < 128 then (getF l : Int) else (getF l : Int) - 256 ^ l.length

def fBack (l : List UInt8) : Prop × DV := (small l, if bad l then .tup [.int .i64 0, .bool false] else .tup [.int .i64 (sgn l), .bool true])

theorem getF_lt : ∀ (l : List UInt8), l.length ≤ 8 → getF l < 256 ^ l.length := by
  intro l
  have key : ∀ (r : List UInt8) (a n : Nat), a < 256 ^ n → n + r.length ≤ 8 → r.foldl (fun a b => (a * 256 + b.toNat) % 18446744073709551616) a < 256 ^ (n + r.length) := by
    intro r
    induction r with
    | nil => intro a n h _; exact h
    | cons b r ih =>
      intro a n h hn
      simp only [List.foldl_cons, List.length_cons]
      have hb := b.toNat_lt
      have h1 : a * 256 + b.toNat < 256 ^ (n + 1) := by rw [Nat.pow_succ]; omega
      have h2 := ih ((a * 256 + b.toNat) % 18446744073709551616) (n + 1) (Nat.lt_of_le_of_lt (Nat.mod_le _ _) h1) (by simp at hn; omega)
      rw [show n + (r.length + 1) = n + 1 + r.length by omega]
      exact h2
  intro h
  have := key l 0 0 (by simp) (by omega)
  rwa [Nat.zero_add] at this

theorem pow8 (n : Nat) (h : n ≤ 8) : 256 ^ n ≤ 18446744073709551616 := by
  have e : (18446744073709551616 : Nat) = 256 ^ 8 := by decide +kernel
  rw [e]
  exact Nat.pow_le_pow_right (Nat.succ_pos _) h

theorem getF_cons (b : UInt8) (l : List UInt8) (h : l.length ≤ 7) : getF (b :: l) = b.toNat * 256 ^ l.length + getF l := by
  have key : ∀ (r : List UInt8) (a n : Nat), a < 256 ^ n → n + r.length ≤ 8 → r.foldl (fun a b => (a * 256 + b.toNat) % 18446744073709551616) a = a * 256 ^ r.length + getF r := by
    intro r
    induction r with
    | nil => intro a n h _; simp [getF]
    | cons c r ih =>
      intro a n h hn
      have hc := c.toNat_lt
      simp only [List.length_cons] at hn
      have h1 : a * 256 + c.toNat < 256 ^ (n + 1) := by rw [Nat.pow_succ]; omega
      have hp : 256 ^ (n + 1) ≤ 18446744073709551616 := pow8 (n + 1) (by omega)
      have e1 : (a * 256 + c.toNat) % 18446744073709551616 = a * 256 + c.toNat := Nat.mod_eq_of_lt (Nat.lt_of_lt_of_le h1 hp)
      have e2 : getF (c :: r) = c.toNat * 256 ^ r.length + getF r := by
        have := ih c.toNat 1 (by omega) (by omega)
        unfold getF at this ⊢
        have hc2 : c.toNat < 18446744073709551616 := by omega
        simp only [List.foldl_cons, Nat.zero_mul, Nat.zero_add, Nat.mod_eq_of_lt hc2]
        exact this
      simp only [List.foldl_cons, List.length_cons]
      rw [e1, ih _ (n + 1) h1 (by omega), e2, Nat.pow_succ, Nat.add_mul]
      have : a * (256 ^ r.length * 256) = a * 256 * 256 ^ r.length := by rw [Nat.mul_comm (256 ^ r.length) 256, Nat.mul_assoc]
      omega
  have hb := b.toNat_lt
  have := key l b.toNat 1 (by omega) (by omega)
  unfold getF at this ⊢
  have hb2 : b.toNat < 18446744073709551616 := by omega
  simp only [List.foldl_cons, Nat.zero_mul, Nat.zero_add, Nat.mod_eq_of_lt hb2]
  exact this

theorem sgn_shift (b R m : Nat) (hb : b < 256) (hR : R < 256 ^ m) (hm : m ≤ 7) :
    (IntKind.i64.wrap (IntKind.u64.wrap (((b * 256 ^ m + R : Nat) : Int) * 2 ^ min (8 * (8 - ((m + 1 : Nat) : Int))).toNat 64))).fdiv (2 ^ min (8 * (8 - ((m + 1 : Nat) : Int))).toNat 64) =
      if b < 128 then ((b * 256 ^ m + R : Nat) : Int) else ((b * 256 ^ m + R : Nat) : Int) - 256 ^ (m + 1) := by
  rw [Int.fdiv_eq_ediv_of_nonneg _ (Int.pow_nonneg (by omega)), IntKind.wrap_u64, IntKind.wrap_i64]
  have hk : min (8 * (8 - ((m + 1 : Nat) : Int))).toNat 64 = 8 * (7 - m) := by omega
  rw [hk]
  have cases : m = 0 ∨ m = 1 ∨ m = 2 ∨ m = 3 ∨ m = 4 ∨ m = 5 ∨ m = 6 ∨ m = 7 := by omega
  rcases cases with rfl | rfl | rfl | rfl | rfl | rfl | rfl | rfl <;> simp only [Nat.reduceSub, Nat.reduceMul, Nat.reducePow, Int.reducePow, Nat.reduceAdd] at hR ⊢ <;> split <;> omega

theorem ok_octet_Back : OkP Tryz.prog 134 (specB1 fBack) := by
  refine OkP.mk (ps := [(135, specB1 fIdle), (115, specB1 fGet)]) (hs := []) (n := 1) ⟨ok_octet_idle, ok_octet_Get, trivial⟩ trivial m_octet_Back (specB1_ok fun l h => ?_)
  have h2 : l.length < 9223372036854775808 := h
  by_cases h1 : l.length < 1
  · have h1' : (l.length : Int) < 1 := by omega
    have hb : bad l = true := by unfold bad; rw [decide_eq_true h1]; rfl
    simp only [↓sqP, sqT, d_octet_Back, fBack, ↓dwp_cond, dvalX, dops_some, dval, Nat.reduceEqDiff, ↓reduceIte, dBin, dInt, retV, retL, DR.val, fzT, fzVs, fzV, fz1, DV.immB, reduceCtorEq, h1', hb]
  have h1' : ¬ (l.length : Int) < 1 := by omega
  by_cases h8 : 8 < l.length
  · have h8' : (8 : Int) < (l.length : Int) := by omega
    have hb : bad l = true := by unfold bad; rw [decide_eq_true h8]; simp
    simp only [↓sqP, sqT, d_octet_Back, fBack, ↓dwp_cond, dvalX, dops_some, dval, Nat.reduceEqDiff, ↓reduceIte, dBin, dInt, retV, retL, DR.val, fzT, fzVs, fzV, fz1, DV.immB, reduceCtorEq, gt_iff_lt, h1', h8', hb]
  have h8' : ¬ (8 : Int) < (l.length : Int) := by omega
  have hs : small l := by unfold small; omega
  cases hi : idleF l with
  | true =>
    have hb : bad l = true := by simp [bad, hi]
    simp only [↓sqP, sqT, d_octet_Back, fBack, fIdle, ↓dwp_cond, dvalX, dops_some, dval, Nat.reduceEqDiff, ↓reduceIte, dBin, dInt, retV, retL, DR.val, fzT, fzVs, fzV, fz1, DV.immB, List.map_cons, List.map_nil, reduceCtorEq, dCallP, viewVs, viewV, view1, noMemV, noMem, gt_iff_lt, h1', h8', hb, hi, hs]
  | false =>
    have hb : bad l = false := by unfold bad; rw [decide_eq_false h1, decide_eq_false h8, hi]; rfl
    simp (disch := omega) only [↓sqP, sqT, d_octet_Back, fBack, fIdle, fGet, ↓dwp_cond, dvalX, dops_some, dval, Nat.reduceEqDiff, ↓reduceIte, dBin, dInt, retV, retL, DR.val, fzT, fzVs, fzV, fz1, DV.immB, List.map_cons, List.map_nil, Bool.false_eq_true, reduceCtorEq, IntKind.bits, wrap_i64_id, dCallP, viewVs, viewV, view1, noMemV, noMem, gt_iff_lt, h1', h8', hb, hi, hs]
    refine ⟨by omega, by omega, ?_⟩
    cases l with
    | nil => exact absurd (by simp) h1
    | cons b r =>
      have hr : r.length ≤ 7 := by simp only [List.length_cons] at h8; omega
      have hR := getF_lt r (by omega)
      have e := sgn_shift b.toNat (getF r) r.length b.toNat_lt hR hr
      rw [getF_cons b r hr]
      unfold sgn
      simp only [List.length_cons, List.getD_cons_zero]
      rw [getF_cons b r hr, e]
end Go.Proofs.YtfaailjhioobhaaGreat

/- The reference's Back; the live cases. -/
set_option linter.all false
set_option maxRecDepth 20000
namespace Go.Proofs.YtfaailjhioobhaaGreat
open Go.Nk

/-- The loop of the reference's Back, from u = i. -/
def acc (i : Nat) (l : List UInt8) : Nat := l.foldl (fun a b => (a * 256 + b.toNat) % 18446744073709551616) i

end Go.Proofs.YtfaailjhioobhaaGreat

