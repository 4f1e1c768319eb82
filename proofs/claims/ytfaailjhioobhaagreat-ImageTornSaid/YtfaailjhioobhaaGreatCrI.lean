/- Sums of bytes, their tails, bytes one behind the other. -/
import Derived.Test.YtfaailjhioobhaaGreatCrD
import Derived.Test.YtfaailjhioobhaaGreatOctBack2
import Derived.Test.YtfaailjhioobhaaGreatNkZ5
set_option linter.all false
set_option maxRecDepth 20000
namespace Go.Proofs.YtfaailjhioobhaaGreat
open Go.Nk Crc0
@[reducible] def cBs (b : List UInt8) : List DV := [.sl (bsl b)]
theorem cBs_inj : ∀ x y, cBs x = cBs y → x = y := fun x y h => bsl_inj (by simpa using h)
abbrev eBss : List (List UInt8) → DV := eL cBs
theorem inj_Bss : Inj eBss := inj_L cBs_inj

/-- What Grow leaves behind that nobody names. -/
def gB (n : Nat) : List DObj := if n = 0 then [] else [⟨.dead, 1, List.replicate n [.int .u8 0]⟩, ⟨.dead, 1, []⟩]
noncomputable def s_GrowB : List DV → List DObj → Res := specG (fun (x : Nat × Nat) a hp => a = [.nil, .int .i64 x.1] ∧ x.2 = hp.length) (fun x => (x.1 ≤ 1000000000, .own (x.2 + (gB x.1).length) 0 0 0)) fun x hp => hp ++ (gB x.1 ++ [⟨.imm, 1, []⟩])
theorem s_GrowB_run (n : Nat) (hp : List DObj) : s_GrowB [.nil, .int .i64 n] hp = ⟨n ≤ 1000000000, .own (hp.length + (gB n).length) 0 0 0, hp ++ (gB n ++ [⟨.imm, 1, []⟩])⟩ := by
  refine specG_at (x := (n, hp.length)) ?_ ⟨rfl, rfl⟩
  rintro ⟨x1, x2⟩ ⟨y1, y2⟩ a hp ⟨rfl, rfl⟩ ⟨h, rfl⟩
  simp only [List.cons.injEq, DV.int.injEq, true_and, and_true] at h
  have : x1 = y1 := by omega
  subst this; rfl
theorem ok_slices_Grow_byte_byte : OkH Tryz.prog 63 s_GrowB := by
  refine OkH.mkGH (ps := []) (hs := []) trivial trivial m_slices_Grow_byte_byte (by rintro x a hp ⟨rfl, _⟩; rfl) ?_
  rintro ⟨n, L⟩ a hp ⟨rfl, rfl⟩ hl
  simp only at hl ⊢
  
  by_cases q : n = 0
  · subst q
    (have hcondQ := Bool.and_self; refine Todo.of ?_); (repeat' (first | ((with_reducible refine Todo.to ?_); (repeat (first | (simp only [↓rP, rT, rU, dvalX, dval, frameFrom, dBin, dInt, retV, DR.val, Nat.reduceEqDiff, ↓reduceIte, reduceCtorEq, Int.reduceSub, d_slices_Grow_byte_byte, gB, Nat.add_zero ]) | (simp (disch := omega) only [i64_id])))) | ((with_reducible refine And.intro ?_ ?_); · first | trivial | omega | (simp; done) | (simp; omega)) | (((with_reducible refine dwp_condA ?_ ?_ ?_); · rfl) <;> (refine Todo.of ?_)))) <;> (try (first | (with_reducible rfl) | exact Nat.le_refl _ | exact Int.le_refl _ | assumption | omega))
  · (have hcondQ := Bool.and_self; refine Todo.of ?_); (repeat' (first | ((with_reducible refine Todo.to ?_); (repeat (first | (simp only [↓rP, rT, rU, dvalX, dval, frameFrom, dBin, dInt, retV, DR.val, dAppz, lenMax, Nat.reduceEqDiff, Nat.reduceAdd, ↓reduceIte, reduceCtorEq, Nat.reduceSub, Int.reduceToNat, Int.reduceLE, Nat.reduceLeDiff, d_slices_Grow_byte_byte, gB, q, List.append_assoc, Nat.add_zero, lst_get, lst_get1, lst_set, lst_set1, dSlice, dBound, Int.sub_zero , hcondQ]) | (simp (disch := omega) only [i64_id])))) | ((with_reducible refine And.intro ?_ ?_); · first | trivial | omega | (simp; done) | (simp; omega)) | ((first | ((with_reducible refine dwp_condI (t := ?_) ?_ (fun hcQ => ?_) (fun hcQ => ?_)); rotate_left; · rfl) | ((with_reducible refine dops_guardI (t := ?_) ?_ (fun hcQ => ?_) (fun hcQ => ?_)); rotate_left; · rfl)) <;> (have hn := hcQ; have hcondQ := hcQ) <;> (try simp only [decide_eq_true_eq, decide_eq_false_iff_not] at hn) <;> (try (exfalso; omega)) <;> (refine Todo.of ?_)) | (((with_reducible refine dwp_condA ?_ ?_ ?_); · rfl) <;> (refine Todo.of ?_)))) <;> (try (first | (with_reducible rfl) | exact Nat.le_refl _ | exact Int.le_refl _ | assumption | omega))

noncomputable def s_ConcatB : List DV → Prop × DV := spec1 eBss fun v => (v.length ≤ 1000000 ∧ v.flatten.length ≤ 1000000000, .sl (bsl v.flatten))
theorem s_ConcatB_at (v : List (List UInt8)) : s_ConcatB [.sl (v.map cBs)] = (v.length ≤ 1000000 ∧ v.flatten.length ≤ 1000000000, .sl (bsl v.flatten)) := spec1_at inj_Bss _ v
theorem bsl_appendR (a b : List UInt8) : bsl a ++ bsl b = bsl (a ++ b) := (bsl_append a b).symm
theorem bsl_tk (b : List UInt8) : (bsl b).take b.length = bsl b := List.take_of_length_le (by rw [bsl_length]; exact Nat.le_refl _)
theorem bsl_rowsT (b : List UInt8) : (∀ e ∈ bsl b, e.length = 1) = True := eq_true bsl_rows
theorem ok_slices_Concat_byte_byte : OkP Tryz.prog 23 s_ConcatB := by
  refine OkP.mk1 (ps := []) (hs := [(63, s_GrowB)]) trivial ⟨ok_slices_Grow_byte_byte, trivial⟩ m_slices_Concat_byte_byte fun v h => ?_
  obtain ⟨hl, hf⟩ := h
  
  (have hcondQ := Bool.and_self; refine Todo.of ?_); (repeat' (first | ((with_reducible refine Todo.to ?_); (repeat (first | (simp only [↓rP, rT, rU, eL, dvalX, dval, ↓reduceIte, reduceCtorEq, d_slices_Concat_byte_byte, eBss ]) | (simp (disch := omega) only [i64_id, u64_id, u8_id, getD_map'])))) | ((with_reducible refine And.intro ?_ ?_); · first | trivial | omega | (simp; done) | (simp; omega)) | (((with_reducible refine dwp_condA ?_ ?_ ?_); · rfl) <;> (refine Todo.of ?_)))) <;> (try (first | (with_reducible rfl) | exact Nat.le_refl _ | exact Int.le_refl _ | assumption | omega))
  refine dwp_each v (fun k (n : Nat) => ⟨[(0, .sl (v.map cBs)), (3, .int .i64 n), (9, .sl (v.map cBs)), (10, .int .i64 v.length), (11, .int .i64 k)], []⟩) (fun k r n => n + r.flatten.length = v.flatten.length) 0 (Nat.le_refl _) (by simp only [cut_some, List.map_cons, List.map_nil, get_cons, Nk.get_nil, Nat.reduceEqDiff, ↓reduceIte, DV.cut, DV.inB, List.take_nil, reduceCtorEq] <;> rfl) (by simp) (fun k x r n d hx hd hr => ?_) (fun k n e hr => ?_)
  · simp only [List.flatten_cons, List.length_append] at hr
    (have hcondQ := Bool.and_self; refine Todo.of ?_); (repeat' (first | ((with_reducible refine Todo.to ?_); (repeat (first | (simp only [↓rP, rT, rU, dvalX, dval, dBin, dInt, dLoad, cellsAt, Nat.reduceEqDiff, ↓reduceIte, reduceCtorEq, d, map_getD cBs hx , hcondQ]) | (simp (disch := omega) only [i64_id])))) | ((with_reducible refine And.intro ?_ ?_); · first | trivial | omega | (simp; done) | (simp; omega)) | ((first | ((with_reducible refine dwp_condI (t := ?_) ?_ (fun hcQ => ?_) (fun hcQ => ?_)); rotate_left; · rfl) | ((with_reducible refine dops_guardI (t := ?_) ?_ (fun hcQ => ?_) (fun hcQ => ?_)); rotate_left; · rfl)) <;> (have hn := hcQ; have hcondQ := hcQ) <;> (try simp only [decide_eq_true_eq, decide_eq_false_iff_not] at hn) <;> (try (exfalso; omega)) <;> (refine Todo.of ?_)) | (((with_reducible refine dwp_condA ?_ ?_ ?_); · rfl) <;> (refine Todo.of ?_)))) <;> (try (first | (with_reducible rfl) | exact Nat.le_refl _ | exact Int.le_refl _ | assumption | omega))
    exact ⟨n + x.length, by simp only [cut_some, List.map_cons, List.map_nil, get_cons, Nk.get_nil, Nat.reduceEqDiff, ↓reduceIte, Nat.succ_ne_self, DV.cut, DV.inB, List.take_nil, reduceCtorEq, Int.natCast_add, Int.natCast_one] <;> rfl, by omega⟩
  simp only [List.flatten_nil, List.length_nil, Nat.add_zero] at hr
  subst hr
  have e1 := s_GrowB_run v.flatten.length []
  simp only [List.length_nil, Nat.zero_add, List.nil_append] at e1
  (have hcondQ := Bool.and_self; refine Todo.of ?_); (repeat' (first | ((with_reducible refine Todo.to ?_); (repeat (first | (simp only [↓rP, rT, rU, dvalX, dval, dBin, dInt, Nat.reduceEqDiff, ↓reduceIte, reduceCtorEq, e, e1 ]) | (simp (disch := omega) only [i64_id, u64_id, u8_id, getD_map'])))) | ((with_reducible refine And.intro ?_ ?_); · first | trivial | omega | (simp; done) | (simp; omega)) | (((with_reducible refine dwp_condA ?_ ?_ ?_); · rfl) <;> (refine Todo.of ?_)))) <;> (try (first | (with_reducible rfl) | exact Nat.le_refl _ | exact Int.le_refl _ | assumption | omega))
  refine dwp_each v (fun k (o : List UInt8) => ⟨[(6, .own (gB v.flatten.length).length o.length 0 o.length), (25, .sl (v.map cBs)), (26, .int .i64 v.length), (27, .int .i64 k)], gB v.flatten.length ++ [⟨.imm, 1, bsl o⟩]⟩) (fun k r o => o ++ r.flatten = v.flatten) [] trivial (by simp only [cut_none, List.map_cons, List.map_nil, get_cons, Nk.get_nil, Nat.reduceEqDiff, ↓reduceIte, List.length_nil] <;> rfl) rfl (fun k x r o d hx hd hr => ?_) (fun k o e hr => ?_)
  · simp only [List.flatten_cons] at hr
    have hb : o.length + x.length ≤ v.flatten.length := by rw [← hr]; simp
    (have hcondQ := Bool.and_self; refine Todo.of ?_); (repeat' (first | ((with_reducible refine Todo.to ?_); (repeat (first | (simp only [↓rP, rT, rU, dvalX, dval, dBin, dInt, dLoad, cellsAt, elemsOf, dAppend, lenMax, Nat.reduceEqDiff, ↓reduceIte, bsl_rowsT, d, map_getD cBs hx, g_get, g_set, bsl_appendR ]) | (simp (disch := omega) only [i64_id])))) | ((with_reducible refine And.intro ?_ ?_); · first | trivial | omega | (simp; done) | (simp; omega)) | (((with_reducible refine dwp_condA ?_ ?_ ?_); · rfl) <;> (refine Todo.of ?_)))) <;> (try (first | (with_reducible rfl) | exact Nat.le_refl _ | exact Int.le_refl _ | assumption | omega))
    exact ⟨o ++ x, by simp only [cut_none, List.map_cons, List.map_nil, get_cons, Nk.get_nil, Nat.reduceEqDiff, ↓reduceIte, Nat.succ_ne_self, Int.natCast_add, Int.natCast_one, List.length_append] <;> rfl, by simpa using hr⟩
  · simp only [List.flatten_nil, List.append_nil] at hr
    subst hr
    (have hcondQ := Bool.and_self; refine Todo.of ?_); (repeat' (first | ((with_reducible refine Todo.to ?_); (repeat (first | (simp only [↓rP, rT, rU, dvalX, dval, dBin, dInt, retV, DR.val, fzT, fzV, fz1, elemsOf, freezeAt, Nat.reduceEqDiff, ↓reduceIte, reduceCtorEq, bsl_tk, e, g_get ]) | (simp (disch := omega) only [i64_id, u64_id, u8_id, getD_map'])))) | ((with_reducible refine And.intro ?_ ?_); · first | trivial | omega | (simp; done) | (simp; omega)) | (((with_reducible refine dwp_condA ?_ ?_ ?_); · rfl) <;> (refine Todo.of ?_)))) <;> (try (first | (with_reducible rfl) | exact Nat.le_refl _ | exact Int.le_refl _ | assumption | omega))

/-! the tail of a sum -/
def tlk (n : BitVec 32) (k : Nat) : List UInt8 := (List.range k).map fun i => UInt8.ofNat (n >>> (8 * i)).toNat
def tl (n : BitVec 32) : List UInt8 := tlk n 4
theorem tlk_succ (n : BitVec 32) (k : Nat) : tlk n (k + 1) = tlk n k ++ [UInt8.ofNat (n >>> (8 * k)).toNat] := by
  simp [tlk, List.range_succ]
theorem tlk_len (n : BitVec 32) (k : Nat) : (tlk n k).length = k := by simp [tlk]
theorem shr_succ (n : BitVec 32) (k : Nat) : (n >>> (8 * k)) >>> 8 = n >>> (8 * (k + 1)) := by
  rw [← BitVec.shiftRight_add]; congr 1
theorem n_u8 (x : BitVec 32) : IntKind.u8.wrap (x.toNat : Int) = ((UInt8.ofNat x.toNat).toNat : Int) := by
  rw [IntKind.wrap_u8, UInt8.toNat_ofNat']; omega
theorem bsl_snoc (o : List UInt8) (c : UInt8) : bsl o ++ [[.int .u8 (c.toNat : Int)]] = bsl (o ++ [c]) := by simp [bsl]

noncomputable def s_tail : List DV → Prop × DV := spec1 eW32 fun n => (True, .sl (bsl (tl n)))
theorem s_tail_at (n : BitVec 32) : s_tail [.int .u32 (n.toNat : Int)] = (True, .sl (bsl (tl n))) := spec1_at inj_W32 _ n
theorem ok_crc_tail : OkP Tryz.prog 61 s_tail := by
  refine OkP.mk1 (ps := []) (hs := []) trivial trivial m_crc_tail fun n _ => ?_
  (have hcondQ := Bool.and_self; refine Todo.of ?_); (repeat' (first | ((with_reducible refine Todo.to ?_); (repeat (first | (simp only [↓rP, rT, rU, dvalX, dval, lenCap, ↓reduceIte, Int.reduceToNat, Int.reduceLE, d_crc_tail, eW32 ]) | (simp (disch := omega) only [i64_id, u64_id, u8_id, getD_map'])))) | ((with_reducible refine And.intro ?_ ?_); · first | trivial | omega | (simp; done) | (simp; omega)) | (((with_reducible refine dwp_condA ?_ ?_ ?_); · rfl) <;> (refine Todo.of ?_)))) <;> (try (first | (with_reducible rfl) | exact Nat.le_refl _ | exact Int.le_refl _ | assumption | omega))
  refine dwp_loop (fun k : Nat => ⟨[(0, .int .u32 ((n >>> (8 * k)).toNat : Int)), (3, .own 0 k 0 k), (5, .int .i64 k)], [⟨.imm, 1, bsl (tlk n k)⟩]⟩) (fun k => k ≤ 4) (fun k => 4 - k) 0 (Nat.zero_le _) (by simp only [cut_some, List.map_cons, List.map_nil, get_cons, Nk.get_nil, Nat.reduceEqDiff, ↓reduceIte, DV.cut, DV.inB, DObj.cut, List.take_nil, reduceCtorEq, Nat.zero_lt_one, decide_true, List.take_succ_cons]; simp [tlk, bsl]) (Nat.zero_le _) fun k hk => ?_
  by_cases d : k < 4
  · have w1 : IntKind.i64.wrap ((k : Int) + 1) = ((k + 1 : Nat) : Int) := by rw [wrap_i64_id (by omega)]; omega
    have l1 := tlk_len n k
    (have hcondQ := Bool.and_self; refine Todo.of ?_); (repeat' (first | ((with_reducible refine Todo.to ?_); (repeat (first | (simp only [↓rP, rT, rU, dvalX, dval, dBin, dInt, fz1, DV.immB, IntKind.bits, elemsOf, dAppend, fzLL, fzL, bRow, bU, cellsOf, DV.isU, lenMax, Nat.reduceEqDiff, ↓reduceIte, reduceCtorEq, Int.reduceToNat, Int.reduceLE, Nat.reduceLeDiff, forall_const, w1, n_u8, n_shr8, shr_succ, bsl_snoc, l1 , hcondQ]) | (simp (disch := omega) only [i64_id, u64_id, u8_id, getD_map'])))) | ((with_reducible refine And.intro ?_ ?_); · first | trivial | omega | (simp; done) | (simp; omega)) | ((first | ((with_reducible refine dwp_condI (t := ?_) ?_ (fun hcQ => ?_) (fun hcQ => ?_)); rotate_left; · rfl) | ((with_reducible refine dops_guardI (t := ?_) ?_ (fun hcQ => ?_) (fun hcQ => ?_)); rotate_left; · rfl)) <;> (have hn := hcQ; have hcondQ := hcQ) <;> (try simp only [decide_eq_true_eq, decide_eq_false_iff_not] at hn) <;> (try (exfalso; omega)) <;> (refine Todo.of ?_)) | (((with_reducible refine dwp_condA ?_ ?_ ?_); · rfl) <;> (refine Todo.of ?_)))) <;> (try (first | (with_reducible rfl) | exact Nat.le_refl _ | exact Int.le_refl _ | assumption | omega))
    refine ⟨k + 1, ?_, by omega, by omega⟩
    simp only [cut_some, List.map_cons, List.map_nil, get_cons, Nk.get_nil, Nat.reduceEqDiff, ↓reduceIte, DV.cut, DV.inB, DObj.cut, List.take_nil, reduceCtorEq, Nat.zero_lt_one, decide_true, List.take_succ_cons, tlk_succ]
  · have : k = 4 := by omega
    subst this
    have l2 : (bsl (tlk n 4)).take 4 = bsl (tl n) := List.take_of_length_le (by rw [bsl_length, tlk_len]; exact Nat.le_refl _)
    (have hcondQ := Bool.and_self; refine Todo.of ?_); (repeat' (first | ((with_reducible refine Todo.to ?_); (repeat (first | (simp only [↓rP, rT, rU, dvalX, dval, dBin, dInt, retV, DR.val, fzT, fzV, fz1, elemsOf, freezeAt, Nat.reduceEqDiff, ↓reduceIte, reduceCtorEq, Nat.reduceSub, Nat.reduceLeDiff, Nat.reduceMul, l2, tlk_len n 4 ]) | (simp (disch := omega) only [i64_id, u64_id, u8_id, getD_map'])))) | ((with_reducible refine And.intro ?_ ?_); · first | trivial | omega | (simp; done) | (simp; omega)) | (((with_reducible refine dwp_condA ?_ ?_ ?_); · rfl) <;> (refine Todo.of ?_)))) <;> (try (first | (with_reducible rfl) | exact Nat.le_refl _ | exact Int.le_refl _ | assumption | omega))
/-! the sum of bytes -/
def crcF (b : List UInt8) : BitVec 32 := ~~~ reg 0xffffffff#32 b
noncomputable def s_Of : List DV → Prop × DV := spec1 eBs fun b => (b.length ≤ 4294967296, .int .u32 ((crcF b).toNat : Int))
theorem s_Of_at (b : List UInt8) : s_Of [.sl (bsl b)] = (b.length ≤ 4294967296, .int .u32 ((crcF b).toNat : Int)) := spec1_at inj_Bs _ b
theorem okS_new : okS newS := ⟨by simp [newS], rfl, fun h => absurd rfl h⟩
theorem ok_crc_Of : OkP Tryz.prog 62 s_Of := by
  refine OkP.mk1 (ps := []) (hs := [(110, s_New), (111, s_Add), (112, s_Value)]) trivial ⟨ok_New, ok_Add, ok_Value, trivial⟩ m_crc_Of fun b h => ?_
  have h : b.length ≤ 4294967296 := h
  have e1 := s_New_at []
  have e2 := s_Add_at (hp := [oS newS]) (n := 0) (s := newS) rfl b
  have e3 := s_Value_at (hp := [oS (addS newS b)]) (n := 0) (s := addS newS b) rfl
  have k1 := okS_new
  have k2 : (addS newS b).t.length = 256 := (okS_add k1 (b := b)).1
  have ev : valF (addS newS b) = crcF b := rfl
  
  (have hcondQ := Bool.and_self; refine Todo.of ?_); (repeat' (first | ((with_reducible refine Todo.to ?_); (repeat (first | (simp only [↓rP, rT, rU, eBs, dvalX, dval, retV, DR.val, fzT, fzV, fz1, DV.immB, Nat.reduceEqDiff, ↓reduceIte, reduceCtorEq, d_crc_Of, e1, e2, e3, k1, k2, h, ev ]) | (simp (disch := omega) only [i64_id, u64_id, u8_id, getD_map'])))) | ((with_reducible refine And.intro ?_ ?_); · first | trivial | omega | (simp; done) | (simp; omega)) | (((with_reducible refine dwp_condA ?_ ?_ ?_); · rfl) <;> (refine Todo.of ?_)))) <;> (try (first | (with_reducible rfl) | exact Nat.le_refl _ | exact Int.le_refl _ | assumption | omega))

theorem n_rem2 (x : BitVec 32) : (Int.tmod (x.toNat : Int) 2 == 1) = decide (x &&& 1#32 = 1#32) := by
  rw [Int.tmod_eq_emod_of_nonneg (by omega)]
  have e : (x &&& 1#32 = 1#32) ↔ x.toNat % 2 = 1 := by
    rw [← BitVec.toNat_inj, BitVec.toNat_and, show (1#32).toNat = 2 ^ 1 - 1 from rfl, Nat.and_two_pow_sub_one_eq_mod]
  by_cases h : x &&& 1#32 = 1#32
  · rw [decide_eq_true h]; have := e.1 h; simp only [beq_iff_eq]; omega
  · rw [decide_eq_false h]; have hn : ¬ x.toNat % 2 = 1 := fun k => h (e.2 k); simp only [beq_eq_false_iff_ne]; omega
/-! sealed, and opened -/
theorem bsl_byte (b : List UInt8) : ∀ e ∈ bsl b, ∃ n, e = [DV.int .u8 n] := by
  intro e he
  simp only [bsl, List.mem_map] at he
  obtain ⟨x, _, rfl⟩ := he
  exact ⟨_, rfl⟩
theorem b2f_bsl (b : List UInt8) : (bsl b).map b2f = b := by
  induction b with
  | nil => rfl
  | cons x b ih =>
    show b2f [.int .u8 (x.toNat : Int)] :: (bsl b).map b2f = _
    rw [ih]
    congr 1
    simp [b2f]
noncomputable def s_BEq : List DV → Prop × DV := spec2 eBs eBs fun a b => (True, .bool (a == b))
theorem s_BEq_at (a : List UInt8) (b : List UInt8) : s_BEq [.sl (bsl a), .sl (bsl b)] = (True, .bool (a == b)) := spec2_at inj_Bs inj_Bs _ a b
theorem ok_bytes_Equal : OkP Tryz.prog 74 s_BEq := by
  refine OkP.mk2 (ps := []) (hs := []) trivial trivial m_bytes_Equal fun a b _ => ?_
  have e1 : (∀ e ∈ bsl a, ∃ n, e = [DV.int .u8 n]) = True := eq_true (bsl_byte a)
  have e2 : (∀ e ∈ bsl b, ∃ n, e = [DV.int .u8 n]) = True := eq_true (bsl_byte b)
  (have hcondQ := Bool.and_self; refine Todo.of ?_); (repeat' (first | ((with_reducible refine Todo.to ?_); (repeat (first | (simp only [↓rP, rT, eBs, dvalX, dval, dBin, dStr, retV, DR.val, fzT, fzV, fz1, DV.immB, elemsOf, Nat.reduceEqDiff, ↓reduceIte, reduceCtorEq, d_bytes_Equal, e1, e2, b2f_bsl ]) | (simp (disch := omega) only [i64_id, u64_id, u8_id, getD_map'])))) | ((with_reducible refine And.intro ?_ ?_); · first | trivial | omega | (simp; done) | (simp; omega)) | (((with_reducible refine dwp_condA ?_ ?_ ?_); · rfl) <;> (refine Todo.of ?_)))) <;> (try (first | (with_reducible rfl) | exact Nat.le_refl _ | exact Int.le_refl _ | assumption | omega))
def sealF (b : List UInt8) : List UInt8 := b ++ tl (crcF b)
/-- What is opened. -/
def openF (b : List UInt8) : Option (List UInt8) := if 4 ≤ b.length ∧ tl (crcF (b.take (b.length - 4))) = b.drop (b.length - 4) then some (b.take (b.length - 4)) else none
def openB (b : List UInt8) : List UInt8 := (openF b).getD []
theorem tl_len (n : BitVec 32) : (tl n).length = 4 := tlk_len n 4
noncomputable def s_Seal : List DV → Prop × DV := spec1 eBs fun b => (b.length ≤ 100000000, .sl (bsl (sealF b)))
theorem s_Seal_at (b : List UInt8) : s_Seal [.sl (bsl b)] = (b.length ≤ 100000000, .sl (bsl (sealF b))) := spec1_at inj_Bs _ b
noncomputable def s_Open : List DV → Prop × DV := spec1 eBs fun b => (b.length ≤ 100000000, .tup [.sl (bsl (openB b)), .bool (openF b).isSome])
theorem s_Open_at (b : List UInt8) : s_Open [.sl (bsl b)] = (b.length ≤ 100000000, .tup [.sl (bsl (openB b)), .bool (openF b).isSome]) := spec1_at inj_Bs _ b
theorem ok_crc_Seal : OkP Tryz.prog 22 s_Seal := by
  refine OkP.mk1 (ps := [(62, s_Of), (61, s_tail), (23, s_ConcatB)]) (hs := []) ⟨ok_crc_Of, ok_crc_tail, ok_slices_Concat_byte_byte, trivial⟩ trivial m_crc_Seal fun b h => ?_
  try dsimp only at h
  have e1 : [DV.sl (bsl b)] = cBs b := rfl
  have e2 := s_ConcatB_at [b, tl (crcF b)]
  have l1 := tl_len (crcF b)
  have ef : [b, tl (crcF b)].flatten = sealF b := by simp [sealF]
  have l2 : (sealF b).length = b.length + 4 := by simp [sealF, l1]
  rw [ef] at e2
  have h2 : (sealF b).length ≤ 1000000000 := by omega
  simp only [List.map_cons, List.map_nil] at e2
  (have hcondQ := Bool.and_self; refine Todo.of ?_); (repeat' (first | ((with_reducible refine Todo.to ?_); (repeat (first | (simp only [↓rP, rT, rU, eBs, dvalX, dval, retV, DR.val, fzT, fzVs, fzV, fz1, DV.immB, dCallP, viewVs, viewV, view1, noMemV, noMem, fzLL, fzL, bRow, bU, cellsOf, DV.isU, Nat.reduceEqDiff, Nat.reduceAdd, ↓reduceIte, reduceCtorEq, Nat.reduceLeDiff, forall_const, d_crc_Seal, s_Of_at, s_tail_at, e2, h2 , hcondQ]) | (simp (disch := omega) only [i64_id, u64_id, u8_id, getD_map'])))) | ((with_reducible refine And.intro ?_ ?_); · first | trivial | omega | (simp; done) | (simp; omega)) | (((with_reducible refine dwp_condA ?_ ?_ ?_); · rfl) <;> (refine Todo.of ?_)))) <;> (try (first | (with_reducible rfl) | exact Nat.le_refl _ | exact Int.le_refl _ | assumption | omega))
theorem slice_bsH {hp : List DObj} {l : List UInt8} {b : Int} (h2 : 0 ≤ b) (h3 : b ≤ l.length) : dSlice hp 1 (.sl (bsl l)) none (some (.int .i64 b)) none = (True, .sl (bsl (l.take b.toNat))) := by
  simp only [dSlice, dBound, bsl_length, Option.isSome_none, Prod.mk.injEq]
  refine ⟨eq_true ⟨bsl_rows, trivial, trivial, trivial, by simp, Int.le_refl _, h2, Int.le_refl _, h3⟩, ?_⟩
  simp [bsl]
theorem slice_bsL {hp : List DObj} {l : List UInt8} {b : Int} (h2 : 0 ≤ b) (h3 : b ≤ l.length) : dSlice hp 1 (.sl (bsl l)) (some (.int .i64 b)) none none = (True, .sl (bsl (l.drop b.toNat))) := by
  simp only [dSlice, dBound, bsl_length, Option.isSome_none, Prod.mk.injEq]
  refine ⟨eq_true ⟨bsl_rows, trivial, trivial, trivial, by simp, h2, h3, Int.le_refl _, Int.le_refl _⟩, ?_⟩
  rw [Int.toNat_natCast, List.take_of_length_le (by rw [bsl_length]; exact Nat.le_refl _), bsl_drop]
theorem openF_no {b : List UInt8} (h : ¬ tl (crcF (b.take (b.length - 4))) = b.drop (b.length - 4)) : openF b = none := by
  unfold openF; rw [if_neg fun k => h k.2]
theorem openF_short {b : List UInt8} (h : b.length < 4) : openF b = none := by
  unfold openF; rw [if_neg fun k => by omega]
theorem openF_yes {b : List UInt8} (h4 : ¬ b.length < 4) (h : tl (crcF (b.take (b.length - 4))) = b.drop (b.length - 4)) : openF b = some (b.take (b.length - 4)) := by
  unfold openF; rw [if_pos ⟨by omega, h⟩]
theorem ok_crc_Open : OkP Tryz.prog 34 s_Open := by
  refine OkP.mk1 (ps := [(62, s_Of), (61, s_tail), (74, s_BEq), (64, (specB1 fClone))]) (hs := []) ⟨ok_crc_Of, ok_crc_tail, ok_bytes_Equal, ok_slices_Clone_byte_byte, trivial⟩ trivial m_crc_Open fun b h => ?_
  try dsimp only at h
  have h : b.length ≤ 100000000 := h
  by_cases h4 : b.length < 4
  · have eo := openF_short h4
    simp only [openB, eo, Option.getD_none, Option.isSome_none]
    (have hcondQ := Bool.and_self; refine Todo.of ?_); (repeat' (first | ((with_reducible refine Todo.to ?_); (repeat (first | (simp only [↓rP, rT, rU, eBs, dvalX, dval, dBin, dInt, retV, retL, DR.val, fzT, fzVs, fzV, fz1, DV.immB, Nat.reduceEqDiff, ↓reduceIte, reduceCtorEq, d_crc_Open, bsl , hcondQ]) | (simp (disch := omega) only [i64_id, u64_id, u8_id, getD_map'])))) | ((with_reducible refine And.intro ?_ ?_); · first | trivial | omega | (simp; done) | (simp; omega)) | ((first | ((with_reducible refine dwp_condI (t := ?_) ?_ (fun hcQ => ?_) (fun hcQ => ?_)); rotate_left; · rfl) | ((with_reducible refine dops_guardI (t := ?_) ?_ (fun hcQ => ?_) (fun hcQ => ?_)); rotate_left; · rfl)) <;> (have hn := hcQ; have hcondQ := hcQ) <;> (try simp only [decide_eq_true_eq, decide_eq_false_iff_not] at hn) <;> (try (exfalso; omega)) <;> (refine Todo.of ?_)) | (((with_reducible refine dwp_condA ?_ ?_ ?_); · rfl) <;> (refine Todo.of ?_)))) <;> (try (first | (with_reducible rfl) | exact Nat.le_refl _ | exact Int.le_refl _ | assumption | omega))
  have w : IntKind.i64.wrap ((b.length : Int) - 4) = ((b.length - 4 : Nat) : Int) := by rw [wrap_i64_id (by omega)]; omega
  have s1 := fun hp => slice_bsH (hp := hp) (l := b) (b := ((b.length - 4 : Nat) : Int)) (by omega) (by omega)
  have s2 := fun hp => slice_bsL (hp := hp) (l := b) (b := ((b.length - 4 : Nat) : Int)) (by omega) (by omega)
  rw [Int.toNat_natCast] at s1 s2
  have k1 : (b.take (b.length - 4)).length ≤ 4294967296 := by simp; omega
  by_cases c : tl (crcF (b.take (b.length - 4))) = b.drop (b.length - 4)
  · have eo := openF_yes h4 c
    simp only [openB, eo, Option.getD_some, Option.isSome_some]
    have c1 : (tl (crcF (b.take (b.length - 4))) == b.drop (b.length - 4)) = true := by simp [c]
    (have hcondQ := Bool.and_self; refine Todo.of ?_); (repeat' (first | ((with_reducible refine Todo.to ?_); (repeat (first | (simp only [↓rP, rT, rU, eBs, dvalX, dval, dBin, dInt, dUn, retV, retL, DR.val, fzT, fzVs, fzV, fz1, DV.immB, dCallP, viewVs, viewV, view1, noMemV, noMem, Nat.reduceEqDiff, ↓reduceIte, reduceCtorEq, d_crc_Open, s_Of_at, s_tail_at, s_BEq_at, w, s1, s2, k1, c1, fClone , hcondQ]) | (simp (disch := omega) only [i64_id, u64_id, u8_id, getD_map'])))) | ((with_reducible refine And.intro ?_ ?_); · first | trivial | omega | (simp; done) | (simp; omega)) | ((first | ((with_reducible refine dwp_condI (t := ?_) ?_ (fun hcQ => ?_) (fun hcQ => ?_)); rotate_left; · rfl) | ((with_reducible refine dops_guardI (t := ?_) ?_ (fun hcQ => ?_) (fun hcQ => ?_)); rotate_left; · rfl)) <;> (have hn := hcQ; have hcondQ := hcQ) <;> (try simp only [decide_eq_true_eq, decide_eq_false_iff_not] at hn) <;> (try (exfalso; omega)) <;> (refine Todo.of ?_)) | (((with_reducible refine dwp_condA ?_ ?_ ?_); · rfl) <;> (refine Todo.of ?_)))) <;> (try (first | (with_reducible rfl) | exact Nat.le_refl _ | exact Int.le_refl _ | assumption | omega))
  · have eo := openF_no c
    simp only [openB, eo, Option.getD_none, Option.isSome_none]
    have c1 : (tl (crcF (b.take (b.length - 4))) == b.drop (b.length - 4)) = false := by simp [c]
    (have hcondQ := Bool.and_self; refine Todo.of ?_); (repeat' (first | ((with_reducible refine Todo.to ?_); (repeat (first | (simp only [↓rP, rT, rU, eBs, dvalX, dval, dBin, dInt, dUn, retV, retL, DR.val, fzT, fzVs, fzV, fz1, DV.immB, dCallP, viewVs, viewV, view1, noMemV, noMem, Nat.reduceEqDiff, ↓reduceIte, reduceCtorEq, d_crc_Open, s_Of_at, s_tail_at, s_BEq_at, w, s1, s2, k1, c1, hcondQ]) | (simp (disch := omega) only [i64_id, u64_id, u8_id, getD_map'])))) | ((with_reducible refine And.intro ?_ ?_); · first | trivial | omega | (simp; done) | (simp; omega)) | ((first | ((with_reducible refine dwp_condI (t := ?_) ?_ (fun hcQ => ?_) (fun hcQ => ?_)); rotate_left; · rfl) | ((with_reducible refine dops_guardI (t := ?_) ?_ (fun hcQ => ?_) (fun hcQ => ?_)); rotate_left; · rfl)) <;> (have hn := hcQ; have hcondQ := hcQ) <;> (try simp only [decide_eq_true_eq, decide_eq_false_iff_not] at hn) <;> (try (exfalso; omega)) <;> (refine Todo.of ?_)) | (((with_reducible refine dwp_condA ?_ ?_ ?_); · rfl) <;> (refine Todo.of ?_)))) <;> (try (first | (with_reducible rfl) | exact Nat.le_refl _ | exact Int.le_refl _ | assumption | omega))
    all_goals rfl
end Go.Proofs.YtfaailjhioobhaaGreat

/- The page's example; CrcOpens. -/
set_option linter.all false
set_option maxRecDepth 20000
namespace Go.Proofs.YtfaailjhioobhaaGreat
open Go.Nk Crc0
theorem sealF_len (b : List UInt8) : (sealF b).length = b.length + 4 := by simp [sealF, tl_len]
end Go.Proofs.YtfaailjhioobhaaGreat

/- What is sealed is opened; a burst is told. -/
set_option linter.all false
set_option maxRecDepth 20000
namespace Go.Proofs.YtfaailjhioobhaaGreat
open Go.Nk Crc0

theorem low_add (a b w : Nat) : low (a + b) w = low a w ++ low b (w / 2 ^ a) := by
  unfold low
  rw [List.range_add, List.map_append, List.map_map]
  congr 1
  apply List.map_congr_left
  intro i _
  simp only [Function.comp_apply]
  rw [Nat.add_comm, Nat.testBit_div_two_pow]
theorem low_mod (w : Nat) : low 8 (w % 256) = low 8 w := by
  unfold low
  apply List.map_congr_left
  intro i hi
  have : i < 8 := List.mem_range.1 hi
  rw [show (256 : Nat) = 2 ^ 8 from rfl, Nat.testBit_mod_two_pow]
  simp [this]
theorem all_tl (n : BitVec 32) : all (tl n) = low 32 n.toNat := by
  have e : ∀ k, low 8 (UInt8.ofNat (n >>> (8 * k)).toNat).toNat = low 8 (n.toNat / 2 ^ (8 * k)) := by
    intro k
    rw [UInt8.toNat_ofNat', low_mod, BitVec.toNat_ushiftRight, Nat.shiftRight_eq_div_pow]
  have h : all (tl n) = low 8 (n.toNat / 2 ^ (8 * 0)) ++ (low 8 (n.toNat / 2 ^ (8 * 1)) ++ (low 8 (n.toNat / 2 ^ (8 * 2)) ++ low 8 (n.toNat / 2 ^ (8 * 3)))) := by
    rw [← e 0, ← e 1, ← e 2, ← e 3]
    simp [all, tl, tlk, List.range_succ]
  rw [h]
  generalize n.toNat = w
  rw [show (32 : Nat) = 8 + (8 + (8 + 8)) from rfl, low_add, low_add, low_add]
  simp only [Nat.div_div_eq_div_mul, Nat.mul_zero, Nat.pow_zero, Nat.div_one]
theorem reg_tl (r n : BitVec 32) : reg r (tl n) = it 32 (r ^^^ n) := by
  rw [reg_bits, all_tl, bits_low 32 _ _ (by omega) n.isLt, BitVec.ofNat_toNat, BitVec.setWidth_eq]
theorem reg_app (r : BitVec 32) (a b : List UInt8) : reg r (a ++ b) = reg (reg r a) b := by simp [reg]
/-- The residue. -/
theorem open_res {d x : List UInt8} (h : openF d = some x) : reg 0xffffffff#32 d = it 32 0xffffffff#32 := by
  unfold openF at h
  split at h
  · rename_i hc
    have e : d = d.take (d.length - 4) ++ tl (crcF (d.take (d.length - 4))) := by rw [hc.2, List.take_append_drop]
    rw [e, reg_app, reg_tl]
    generalize d.take (d.length - 4) = y
    unfold crcF
    congr 1
    generalize reg 0xffffffff#32 y = r
    rw [show 0xffffffff#32 = BitVec.allOnes 32 by decide]
    apply BitVec.eq_of_getLsbD_eq
    intro i hi
    rw [BitVec.getLsbD_xor, BitVec.getLsbD_not, BitVec.getLsbD_allOnes]
    simp [hi]
  · cases h
theorem open_seal (b : List UInt8) : openF (sealF b) = some b := by
  have l := sealF_len b
  have e1 : (sealF b).take ((sealF b).length - 4) = b := by rw [l]; simp [sealF]
  have e2 : (sealF b).drop ((sealF b).length - 4) = tl (crcF b) := by rw [l]; simp [sealF]
  unfold openF
  rw [e1, e2, if_pos ⟨by omega, rfl⟩]

/-! bits of bytes -/
def bitD (d : List UInt8) (j : Nat) : Bool := (d.getD (j / 8) 0).toNat.testBit (j % 8)
theorem all_len (d : List UInt8) : (all d).length = 8 * d.length := by
  induction d with
  | nil => rfl
  | cons c d ih => simp only [all, List.flatMap_cons, List.length_append, List.length_cons] at ih ⊢; rw [ih]; simp [low]; omega
theorem all_get (d : List UInt8) (j : Nat) (h : j < 8 * d.length) : (all d)[j]? = some (bitD d j) := by
  induction d generalizing j with
  | nil => simp at h
  | cons c d ih =>
    simp only [all, List.flatMap_cons]
    by_cases h8 : j < 8
    · rw [List.getElem?_append_left (by simp [low]; exact h8)]
      have e1 : j / 8 = 0 := by omega
      have e2 : j % 8 = j := by omega
      simp [low, bitD, e1, e2, h8]
    · rw [List.getElem?_append_right (by simp [low]; omega)]
      have hl : (low 8 c.toNat).length = 8 := by simp [low]
      rw [hl]
      have := ih (j - 8) (by simp only [List.length_cons] at h; omega)
      simp only [all] at this
      rw [this]
      have e1 : j / 8 = (j - 8) / 8 + 1 := by omega
      have e2 : j % 8 = (j - 8) % 8 := by omega
      simp [bitD, e1, e2]
def flipB (c : UInt8) (q : Nat) : UInt8 := UInt8.ofNat (c.toNat ^^^ 2 ^ q)
theorem flipB_nat (c : UInt8) (q : Nat) (h : q < 8) : (flipB c q).toNat = c.toNat ^^^ 2 ^ q := by
  unfold flipB
  rw [UInt8.toNat_ofNat']
  exact Nat.mod_eq_of_lt (Nat.xor_lt_two_pow (n := 8) c.toNat_lt (Nat.pow_lt_pow_right (by omega) h))
def flipAt (d : List UInt8) (m : Nat) : List UInt8 := d.set (m / 8) (flipB (d.getD (m / 8) 0) (m % 8))
theorem flipAt_len (d : List UInt8) (m : Nat) : (flipAt d m).length = d.length := by simp [flipAt]
theorem flip_bit (d : List UInt8) (m : Nat) (h : m < 8 * d.length) (j : Nat) : bitD (flipAt d m) j = (bitD d j ^^ decide (j = m)) := by
  unfold bitD flipAt
  rw [List.getD_eq_getElem?_getD, List.getElem?_set]
  by_cases e : m / 8 = j / 8
  · rw [if_pos e, if_pos (by omega), Option.getD_some, flipB_nat _ _ (by omega), Nat.testBit_xor, Nat.testBit_two_pow, ← e]
    congr 1
    apply Bool.eq_iff_iff.2
    simp only [decide_eq_true_eq]
    omega
  · rw [if_neg e, ← List.getD_eq_getElem?_getD]
    have : j ≠ m := fun h => e (by rw [h])
    simp [this]
def flips (d : List UInt8) (at_ : Nat) (turn : BitVec 32) : Nat → List UInt8
  | 0 => d
  | i + 1 => if turn.getLsbD i then flipAt (flips d at_ turn i) (at_ + i) else flips d at_ turn i
theorem flips_len (d : List UInt8) (at_ : Nat) (turn : BitVec 32) (i : Nat) : (flips d at_ turn i).length = d.length := by
  induction i with
  | zero => rfl
  | succ i ih => simp only [flips]; split <;> simp [flipAt_len, ih]
theorem flips_bit (d : List UInt8) (at_ : Nat) (turn : BitVec 32) (h : at_ + 32 ≤ 8 * d.length) (i : Nat) (hi : i ≤ 32) (j : Nat) :
    bitD (flips d at_ turn i) j = (bitD d j ^^ (decide (at_ ≤ j ∧ j < at_ + i) && turn.getLsbD (j - at_))) := by
  induction i with
  | zero =>
    have : ¬ (at_ ≤ j ∧ j < at_ + 0) := by omega
    rw [decide_eq_false this]
    simp [flips]
  | succ i ih =>
    have ih := ih (by omega)
    simp only [flips]
    by_cases hj : j = at_ + i
    · have e1 : ¬ (at_ ≤ j ∧ j < at_ + i) := by omega
      have e2 : at_ ≤ j ∧ j < at_ + (i + 1) := by omega
      have e3 : j - at_ = i := by omega
      rw [decide_eq_false e1, Bool.false_and, Bool.xor_false] at ih
      rw [decide_eq_true e2, e3, Bool.true_and]
      split
      · rename_i ht
        rw [flip_bit _ _ (by rw [flips_len]; omega), ih, ht, decide_eq_true hj]
      · rename_i ht
        rw [ih]; simp at ht; simp [ht]
    · have e1 : decide (at_ ≤ j ∧ j < at_ + (i + 1)) = decide (at_ ≤ j ∧ j < at_ + i) := by
        apply Bool.eq_iff_iff.2; simp only [decide_eq_true_eq]; omega
      rw [e1]
      split
      · rw [flip_bit _ _ (by rw [flips_len]; omega), ih, decide_eq_false hj, Bool.xor_false]
      · exact ih
/-- Where bits are turned. -/
def errs (at_ n : Nat) (turn : BitVec 32) : List Bool := List.replicate at_ false ++ (low 32 turn.toNat ++ List.replicate (n - at_ - 32) false)
theorem errs_len (at_ n : Nat) (turn : BitVec 32) (h : at_ + 32 ≤ n) : (errs at_ n turn).length = n := by simp [errs, low]; omega
theorem errs_get (at_ n : Nat) (turn : BitVec 32) (h : at_ + 32 ≤ n) (j : Nat) (hj : j < n) : (errs at_ n turn)[j]? = some (decide (at_ ≤ j ∧ j < at_ + 32) && turn.getLsbD (j - at_)) := by
  unfold errs
  by_cases h1 : j < at_
  · rw [List.getElem?_append_left (by simpa using h1), List.getElem?_replicate, if_pos h1]
    have : ¬ (at_ ≤ j ∧ j < at_ + 32) := by omega
    simp [this]
  rw [List.getElem?_append_right (by simpa using by omega), List.length_replicate]
  by_cases h2 : j < at_ + 32
  · rw [List.getElem?_append_left (by simp [low]; omega)]
    have e : at_ ≤ j ∧ j < at_ + 32 := by omega
    have e2 : j - at_ < 32 := by omega
    simp [low, e, e2, BitVec.testBit_toNat]
  · rw [List.getElem?_append_right (by simp [low]; omega), List.getElem?_replicate]
    have : ¬ (at_ ≤ j ∧ j < at_ + 32) := by omega
    rw [if_pos (by simp [low]; omega)]
    simp [this]
theorem all_flips (d : List UInt8) (at_ : Nat) (turn : BitVec 32) (h : at_ + 32 ≤ 8 * d.length) : all (flips d at_ turn 32) = List.zipWith xor (all d) (errs at_ (8 * d.length) turn) := by
  apply List.ext_getElem?
  intro j
  by_cases hj : j < 8 * d.length
  · rw [all_get _ _ (by rw [flips_len]; exact hj), flips_bit d at_ turn h 32 (Nat.le_refl _), List.getElem?_zipWith, all_get _ _ hj, errs_get _ _ _ h _ hj]
  · rw [List.getElem?_eq_none (by rw [all_len, flips_len]; omega), List.getElem?_eq_none (by rw [List.length_zipWith, all_len]; omega)]
/-- A burst is told. -/
theorem burst_told {c x : List UInt8} (h : openF c = some x) (at_ : Nat) (turn : BitVec 32) (hat : at_ + 32 ≤ 8 * c.length) (ht : turn ≠ 0#32) : openF (flips c at_ turn 32) = none := by
  cases ho : openF (flips c at_ turn 32) with
  | none => rfl
  | some y =>
    exfalso
    have e1 := open_res h
    have e2 := open_res ho
    rw [reg_bits] at e1 e2
    rw [all_flips c at_ turn hat] at e2
    refine burst (all c) _ at_ (8 * c.length - at_ - 32) turn.toNat 0xffffffff#32 rfl ?_ turn.isLt (fun h0 => ht (BitVec.eq_of_toNat_eq h0)) (e2.trans e1.symm)
    rw [all_len]; exact (errs_len _ _ _ hat).symm
end Go.Proofs.YtfaailjhioobhaaGreat

/- CrcTells. -/
set_option linter.all false
set_option maxRecDepth 20000
namespace Go.Proofs.YtfaailjhioobhaaGreat
open Go.Nk Crc0

theorem n_flip (c : UInt8) (q : Nat) (h : q < 8) : bitsOf .xor .u8 (c.toNat : Int) (IntKind.u8.wrap (1 * 2 ^ min q 8)) = ((flipB c q).toNat : Int) := by
  rw [flipB_nat c q h]
  have key : ∀ n : Nat, n < 256 → ∀ q : Nat, q < 8 → bitsOf .xor .u8 (n : Int) (IntKind.u8.wrap (1 * 2 ^ min q 8)) = ((n ^^^ 2 ^ q : Nat) : Int) := by decide +kernel
  exact key _ c.toNat_lt q h
theorem n_shrI (x : BitVec 32) (i : Nat) (h : i < 32) : Int.fdiv (x.toNat : Int) (2 ^ min i 32) = ((x >>> i).toNat : Int) := by
  rw [BitVec.toNat_ushiftRight, Nat.shiftRight_eq_div_pow, Nat.min_eq_left (by omega), Int.fdiv_eq_ediv_of_nonneg _ (Int.le_of_lt (Int.pow_pos (by omega)))]
  have : ((2 : Int) ^ i) = ((2 ^ i : Nat) : Int) := by simp
  rw [this, ← Int.natCast_ediv]
theorem and_bit (x : BitVec 32) (i : Nat) : decide (x >>> i &&& 1#32 = 1#32) = x.getLsbD i := by
  have h0 : (x >>> i &&& 1#32).getLsbD 0 = x.getLsbD i := by
    rw [BitVec.getLsbD_and, BitVec.getLsbD_ushiftRight]; simp
  cases hb : x.getLsbD i with
  | true =>
    rw [hb] at h0
    apply decide_eq_true
    apply BitVec.eq_of_getLsbD_eq
    intro j hj
    rcases Nat.eq_zero_or_pos j with rfl | hp
    · rw [h0]; rfl
    · have : (1#32).getLsbD j = false := by rw [BitVec.getLsbD_one]; simp; omega
      rw [BitVec.getLsbD_and, this, Bool.and_false]
  | false =>
    rw [hb] at h0
    apply decide_eq_false
    intro h
    rw [h] at h0
    exact absurd h0 (by decide)
theorem bsl_set (d : List UInt8) (p : Nat) (x : UInt8) : (bsl d).set p [.int .u8 (x.toNat : Int)] = bsl (d.set p x) := by
  unfold bsl; rw [List.map_set]
theorem reads_u32 : Reads (.int .u32) (fun n => [.int .u32 (n.toNat : Int)]) (fun _ : BitVec 32 => True) := by
  intro ds h
  unfold HasS at h
  obtain ⟨i, rfl, hw⟩ := h
  have : 0 ≤ i ∧ i ≤ 4294967295 := by simpa [Lit.wf, IntKind.min, IntKind.max, IntKind.signed, IntKind.bits] using hw
  refine ⟨BitVec.ofNat 32 i.toNat, ?_, trivial⟩
  have : ((BitVec.ofNat 32 i.toNat).toNat : Int) = i := by rw [BitVec.toNat_ofNat]; omega
  show [DV.int .u32 i] = [DV.int .u32 ((BitVec.ofNat 32 i.toNat).toNat : Int)]
  rw [this]
end Go.Proofs.YtfaailjhioobhaaGreat

